/- PPx8, MyViewA (mergeall.py). -/
import Derived.Test.YtmpngedfnheilaaDoorViewPlaysPPx0
import Derived.Test.YtmpngedfnheilaaDoorViewPlaysMyShelfView
import Derived.Laws.Pointers
import Derived.BigQuiet
import Derived.Deep.RegionHeld3
import Derived.Deep.RegionWith
import Derived.IntWalk
namespace Go.Proofs.YtmpngedfnheilaaDoor.PP
open Go.RowKit Go.Proofs.YtmpngedfnheilaaDoorW.PrintWords Go.Proofs.YtmpngedfnheilaaDoorW.PrintLast Go.Proofs.YtmpngedfnheilaaDoorW.PrintMore
attribute [local go_sem] max2_int min2_int max_two min_two max_three min_three max_four min_four   -- for this text's walks alone
open Go.Proofs.YtmpngedfnheilaaDoor.My
set_option linter.unusedVariables false
set_option linter.unusedSimpArgs false
/-- A state of type 68 at block g of W; what its slices lead to came in by w0. -/
def IsS68 (w0 W : World) (g : Nat) (f0 : List (S74)) : Prop := ∃ A0 c0, W.heap[g]? = some (.cells #[.slice A0 f0.length c0] 68 (0, 0)) ∧ w0.heap.size ≤ g ∧ Kd.C k74 w0 A0 f0.length f0
theorem IsS68.grown {w0 W : World} {g : Nat} {f0 : List (S74)} {W1 : World} {row : Option Nat} (h : IsS68 w0 W g f0) (hw : W.grownBy W1 row) (hne : some g ≠ row) : IsS68 w0 W1 g f0 := by
 obtain ⟨A0, c0, hb, hg, hr0⟩ := h
 exact ⟨A0, c0, blk_grown hb hw hne, hg, hr0⟩
theorem IsS68.fresh {w0 W : World} {g : Nat} {f0 : List (S74)} (h : IsS68 w0 W g f0) : ∀ k, W.heap.size ≤ k → k ≠ g := by
 obtain ⟨A0, c0, hb, hg, hr0⟩ := h
 exact Kd.freshB hb
theorem IsS68.kept {w0 W : World} {g : Nat} {f0 : List (S74)} {W1 : World} {S : Nat → Prop} (h : IsS68 w0 W g f0) (hk : Kept W W1 S) (hne : ¬ S g) : IsS68 w0 W1 g f0 := by
 obtain ⟨A0, c0, hb, hg, hr0⟩ := h
 exact ⟨A0, c0, blk_kept hb hk hne, hg, hr0⟩
theorem IsS68.below {w0 W : World} {g : Nat} {f0 : List (S74)} {W1 : World} (h : IsS68 w0 W g f0) (hw : Below W.heap.size W W1) : IsS68 w0 W1 g f0 := h.grown (grown_of_below hw none) (by simp)
theorem IsS68.alloc {w0 W : World} {g : Nat} {f0 : List (S74)} (h : IsS68 w0 W g f0) (o : Obj) : IsS68 w0 (W.alloc o) g f0 := h.below (below_alloc (Below.refl _ _) o)
theorem IsS68.drewN {w0 W : World} {g : Nat} {f0 : List (S74)} (h : IsS68 w0 W g f0) (m : Nat) : IsS68 w0 (W.drewN m) g f0 := h
theorem IsS68.drew {w0 W : World} {g : Nat} {f0 : List (S74)} (h : IsS68 w0 W g f0) : IsS68 w0 W.drew g f0 := h
theorem IsS68.at_ {w0 W : World} {g : Nat} {f0 : List (S74)} {w' : World} {m : Nat} (hq : W.drewN m = w') (h : IsS68 w0 W g f0) : IsS68 w0 w' g f0 := by subst hq; exact IsS68.drewN h m
theorem IsS68.apart {w0 W : World} {g : Nat} {f0 : List (S74)} {α : Type} {d : Kd α} {e : Nat} {base : Nat} {ok : Nat → Prop} {v : Value} {xs : List α} (h : IsS68 w0 W g f0) (ho : d.R e W base ok v xs) (ht : ∀ q, q ∈ e :: d.E → q ≠ 68) : d.R e W base (fun k => ok k ∧ k ≠ g) v xs := by
 obtain ⟨A0, c0, hb, hg, hr0⟩ := h
 exact Kd.R_types ho hb ht
theorem IsS68.own_ne {w0 W : World} {g : Nat} {f0 : List (S74)} {α : Type} {d : Kd α} {e : Nat} {base : Nat} {ok : Nat → Prop} {v : Value} {xs : List α} (h : IsS68 w0 W g f0) (ho : d.R e W base ok v xs) (ht : e ≠ 68) : some g ≠ v.ownBlock := by
 obtain ⟨A0, c0, hb, hg, hr0⟩ := h
 exact Kd.R_ne ho hb ht
theorem IsS68.lt {w0 W : World} {g : Nat} {f0 : List (S74)} (h : IsS68 w0 W g f0) : g < W.heap.size := by
 obtain ⟨A0, c0, hb, hg, hr0⟩ := h
 exact blk_lt hb
theorem IsS68.ge {w0 W : World} {g : Nat} {f0 : List (S74)} (h : IsS68 w0 W g f0) : w0.heap.size ≤ g := by
 obtain ⟨A0, c0, hb, hg, hr0⟩ := h
 exact hg
theorem IsS68.far {w0 W : World} {g : Nat} {f0 : List (S74)} {p : Addr} (h : IsS68 w0 W g f0) (hne : g ≠ p.block) (u : Value) : IsS68 w0 (W.setCell p u) g f0 := by
 obtain ⟨A0, c0, hb, hg, hr0⟩ := h
 exact ⟨A0, c0, blk_far hb hne u, hg, hr0⟩
theorem IsS68.new (w0 W : World) (A0 : Option Addr) (c0 : Nat) (f0 : List (S74)) (hB : Below w0.heap.size w0 W) (hr0 : Kd.C k74 w0 A0 f0.length f0) : IsS68 w0 (W.alloc (.cells #[.slice A0 f0.length c0] 68)) W.heap.size f0 := ⟨A0, c0, by simpa using heap_alloc_new W _, hB.size, hr0⟩
end Go.Proofs.YtmpngedfnheilaaDoor.PP

namespace Go.Proofs.YtmpngedfnheilaaDoor.PP
open Go.RowKit Go.Proofs.YtmpngedfnheilaaDoorW.PrintWords Go.Proofs.YtmpngedfnheilaaDoorW.PrintLast Go.Proofs.YtmpngedfnheilaaDoorW.PrintMore
open Go.Proofs.YtmpngedfnheilaaDoor.My
set_option linter.unusedVariables false
set_option linter.unusedSimpArgs false
abbrev Pl := S74
/-- Block k is a row of texts that a call has laid. -/
def T9 (w : World) (k : Nat) : Prop := ∃ cells, w.heap[k]? = some (.cells cells 9 (0, 0))
/-- Block g is a View: its places l, which lie in the row v, and its top. -/
structure VW (N0 : Nat) (w : World) (g : Nat) (v : Value) (l : List Pl) (top : Int) : Prop where
  blk : w.heap[g]? = some (.cells #[v, .int .i64 top] 70 (0, 0))
  ge : N0 ≤ g
  row : Kd.N k74 74 w N0 (fun k => T9 w k ∨ v.ownBlock = some k) v l
section
variable {N0 : Nat} {w w' : World} {g : Nat} {v : Value} {l : List Pl} {top : Int}
theorem VW.lt (h : VW N0 w g v l top) : g < w.heap.size := (Array.getElem?_eq_some_iff.1 h.blk).1
theorem VW.keep (h : VW N0 w g v l top) (hg : w'.heap[g]? = w.heap[g]?) (hr : ∀ k, v.ownBlock = some k → w'.heap[k]? = w.heap[k]?) (ht : ∀ k, T9 w k → w'.heap[k]? = w.heap[k]?) : VW N0 w' g v l top :=
  ⟨hg.trans h.blk, h.ge, Kd.N_mono (Kd.N_step h.row (fun k hk _ => hk.elim (ht k) (hr k))) (fun k hk => hk.imp (fun ⟨c, hc⟩ => ⟨c, (ht k ⟨c, hc⟩).trans hc⟩) id)⟩
theorem T9.lt {k : Nat} (h : T9 w k) : k < w.heap.size := by
  obtain ⟨c, h⟩ := h
  exact (Array.getElem?_eq_some_iff.1 h).1
theorem VW.below (h : VW N0 w g v l top) (hb : Below w.heap.size w w') : VW N0 w' g v l top :=
  h.keep (hb.block g h.lt) (fun k hk => hb.block k (Kd.N_lt h.row k hk)) (fun k hk => hb.block k hk.lt)
theorem VW.drewN (h : VW N0 w g v l top) (n : Nat) : VW N0 (w.drewN n) g v l top := h.below (pw_below_drewN (Below.refl _ _) n)
theorem VW.alloc (h : VW N0 w g v l top) (o : Obj) : VW N0 (w.alloc o) g v l top := h.below ((Below.refl _ w).alloc (Nat.le_refl _) o)
theorem VW.slice (h : VW N0 w g v l top) : ∃ A c, v = .slice A l.length c ∧ l.length ≤ c ∧ Kd.C k74 w A l.length l := by
  obtain ⟨A, c, rfl⟩ := Kd.N_slice h.row
  exact ⟨A, c, rfl, (Kd.N_reads' h.row).2.1, (Kd.N_reads' h.row).2.2⟩
theorem VW.cell0 (h : VW N0 w g v l top) : w.cell? ⟨g, 0, none⟩ = some v := (blk_cell h.blk 0).trans rfl
theorem VW.cell1 (h : VW N0 w g v l top) : w.cell? ⟨g, 1, none⟩ = some (.int .i64 top) := (blk_cell h.blk 1).trans rfl
end
def uidAt (l : List Pl) (n : Int) : Int := if n < 1 ∨ n > (l.length : Int) then 0 else (rd_T74 l (n - 1)).f0
set_option maxHeartbeats 2000000 in
set_option maxRecDepth 100000 in
theorem placesUID_ok (N0 g : Nat) (v : Value) (l : List Pl) (top n : Int) (w : World) (h : VW N0 w g v l top) (hn : -9223372036854775808 ≤ n ∧ n ≤ 9223372036854775807) :
    Calls Tryd.prog 49 #[.pointer (some ⟨g, 0, none⟩), .int .i64 n] w fun e w' => e = .returned (.int .i64 (uidAt l n)) ∧ Drawn0 w w' := by
  have hu := Tryd.underlying74
  have hc0 := h.cell0
  obtain ⟨A, c, rfl, hl, hC⟩ := h.slice
  have HC := Aside0.mk hC
  clear hC
  unfold uidAt
  by_cases c1 : n < 1
  · have c1b : decide (n < 1) = true := decide_eq_true c1
    rw [if_pos (.inl c1)]
    go_enter Tryd.func49, Tryd.ntmps49
    go_wp2_with fail
    go_ret
    exact ⟨rfl, ⟨0, rfl⟩⟩
  · have c1b : decide (n < 1) = false := decide_eq_false c1
    by_cases c2 : n > (l.length : Int)
    · have c2b : decide ((l.length : Int) < n) = true := decide_eq_true c2
      rw [if_pos (.inr c2)]
      go_enter Tryd.func49, Tryd.ntmps49
      go_wp2_with fail
      go_ret
      exact ⟨rfl, ⟨0, rfl⟩⟩
    · have c2b : decide ((l.length : Int) < n) = false := decide_eq_false c2
      rw [if_neg (by omega)]
      obtain ⟨j, hj⟩ : ∃ j, wrap64 (n - 1) = j := ⟨_, rfl⟩
      have hj2 : n - 1 = j := by rw [← hj]; unfold wrap64; omega
      have hjw : IntKind.i64.wrap (n - 1) = j := (i64_w _).trans hj
      rw [hj2]
      have p0 : 0 ≤ j := by omega
      have p1 : j < (l.length : Int) := by omega
      obtain ⟨ad, A0, c0, rfl, hx0, _⟩ := at_T74 HC.out j p0 p1
      have p0b := eq_true p0
      have p1b := eq_true p1
      clear hj hj2 p0 p1 c1 c2
      go_enter Tryd.func49, Tryd.ntmps49
      go_wp2_with fail
      go_ret
      exact ⟨rfl, ⟨0, rfl⟩⟩
set_option maxHeartbeats 2000000 in
set_option maxRecDepth 100000 in
theorem placesCount_ok (N0 g : Nat) (v : Value) (l : List Pl) (top : Int) (w : World) (h : VW N0 w g v l top) :
    Calls Tryd.prog 48 #[.pointer (some ⟨g, 0, none⟩)] w fun e w' => e = .returned (.int .i64 (l.length : Int)) ∧ Drawn0 w w' := by
  have hc0 := h.cell0
  obtain ⟨A, c, rfl, hl, hC⟩ := h.slice
  clear hC h
  go_enter Tryd.func48, Tryd.ntmps48
  go_wp2_with fail
  go_ret
  exact ⟨rfl, ⟨0, rfl⟩⟩
set_option maxHeartbeats 2000000 in
set_option maxRecDepth 100000 in
theorem placesMax_ok (N0 g : Nat) (v : Value) (l : List Pl) (top : Int) (w : World) (h : VW N0 w g v l top) (hl : l.length ≤ 1000000000) :
    Calls Tryd.prog 37 #[.pointer (some ⟨g, 0, none⟩)] w fun e w' => e = .returned (.int .i64 (uidAt l (l.length : Int))) ∧ Drawn0 w w' := by
  have H := Aside0.mk h
  have hc0 := h.cell0
  obtain ⟨A, c, rfl, hlc, hC⟩ := h.slice
  clear hC h
  go_enter Tryd.func37, Tryd.ntmps37
  go_wp2_with fail
  refine (placesUID_ok N0 g _ l top (l.length : Int) _ H.out (by omega)).mono ?_
  rintro e w1 ⟨rfl, n1, rfl⟩
  go_wp2_with fail
  go_ret
  exact ⟨rfl, ⟨n1, rfl⟩⟩
set_option maxHeartbeats 2000000 in
set_option maxRecDepth 100000 in
theorem viewUID_ok (N0 g : Nat) (v : Value) (l : List Pl) (top n : Int) (w : World) (h : VW N0 w g v l top) (hn : -9223372036854775808 ≤ n ∧ n ≤ 9223372036854775807) :
    Calls Tryd.prog 26 #[.pointer (some ⟨g, 0, none⟩), .int .i64 n] w fun e w' => e = .returned (.int .i64 (uidAt l n)) ∧ Drawn0 w w' := by
  have H := Aside0.mk h
  clear h
  go_enter Tryd.func26, Tryd.ntmps26
  go_wp2_with fail
  refine (placesUID_ok N0 g v l top n _ H.out hn).mono ?_
  rintro e w1 ⟨rfl, n1, rfl⟩
  go_wp2_with fail
  go_ret
  exact ⟨rfl, ⟨n1, rfl⟩⟩
set_option maxHeartbeats 2000000 in
set_option maxRecDepth 100000 in
theorem viewMax_ok (N0 g : Nat) (v : Value) (l : List Pl) (top : Int) (w : World) (h : VW N0 w g v l top) (hl : l.length ≤ 1000000000) :
    Calls Tryd.prog 13 #[.pointer (some ⟨g, 0, none⟩)] w fun e w' => e = .returned (.int .i64 (uidAt l (l.length : Int))) ∧ Drawn0 w w' := by
  have H := Aside0.mk h
  clear h
  go_enter Tryd.func13, Tryd.ntmps13
  go_wp2_with fail
  refine (placesMax_ok N0 g v l top _ H.out hl).mono ?_
  rintro e w1 ⟨rfl, n1, rfl⟩
  go_wp2_with fail
  go_ret
  exact ⟨rfl, ⟨n1, rfl⟩⟩
set_option maxHeartbeats 2000000 in
set_option maxRecDepth 100000 in
theorem viewCount_ok (N0 g : Nat) (v : Value) (l : List Pl) (top : Int) (w : World) (h : VW N0 w g v l top) :
    Calls Tryd.prog 25 #[.pointer (some ⟨g, 0, none⟩)] w fun e w' => e = .returned (.int .i64 (l.length : Int)) ∧ Drawn0 w w' := by
  have H := Aside0.mk h
  clear h
  go_enter Tryd.func25, Tryd.ntmps25
  go_wp2_with fail
  refine (placesCount_ok N0 g v l top _ H.out).mono ?_
  rintro e w1 ⟨rfl, n1, rfl⟩
  go_wp2_with fail
  go_ret
  exact ⟨rfl, ⟨n1, rfl⟩⟩
end Go.Proofs.YtmpngedfnheilaaDoor.PP
