/- MyViewC, MyViewD (mergeall.py). -/
import Derived.Test.YtmpngedfnheilaaDoorViewPlaysMyViewB
namespace Go.Proofs.YtmpngedfnheilaaDoor.PP
open Go.RowKit Go.Proofs.YtmpngedfnheilaaDoorW.PrintWords Go.Proofs.YtmpngedfnheilaaDoorW.PrintLast Go.Proofs.YtmpngedfnheilaaDoorW.PrintMore
open Go.Proofs.YtmpngedfnheilaaDoor.My
set_option linter.unusedVariables false
set_option linter.unusedSimpArgs false
set_option maxHeartbeats 4000000 in
set_option maxRecDepth 100000 in
theorem placeClosure_ok (N0 g b1 b2 : Nat) (v : Value) (l : List Pl) (top uid : Int) (w : World) (h : VW N0 w g v l top)
    (h1 : w.cell? ⟨b1, 0, none⟩ = some (.pointer (some ⟨g, 0, none⟩))) (h2 : w.cell? ⟨b2, 0, none⟩ = some (.int .i64 uid)) (i : Nat) (hi : i < l.length) :
    Calls Tryd.prog 59 (#[.int .i64 i] ++ #[.pointer (some ⟨b1, 0, none⟩), .pointer (some ⟨b2, 0, none⟩)]) w fun e w' => e = .returned (.bool (decide (uid ≤ (rd_T74 l i).f0))) ∧ Drawn0 w w' := by
  have hc0 := h.cell0
  obtain ⟨A, c, rfl, hlc, hC⟩ := h.slice
  have q0 : (0 : Int) ≤ (i : Int) := by omega
  have q1 : (i : Int) < (l.length : Int) := by omega
  obtain ⟨ad, A1, c1, rfl, hx0, hx1, hl1, hi1⟩ := at_T74 hC (i : Int) q0 q1
  rw [Int.toNat_natCast] at hx0
  clear hC h hx1 hi1 hl1
  replace q1 := eq_true q1
  have q2 := eq_true hi
  clear hi
  go_enter Tryd.func59, Tryd.ntmps59
  go_wp2_with fail
  repeat (go_quiet (fail))
  go_wp2_with fail
  go_ret
  exact ⟨rfl, by repeat (first | exact Drawn0.refl _ | apply Drawn0.step)⟩
set_option maxHeartbeats 4000000 in
set_option maxRecDepth 100000 in
theorem sortSearch_ok (f : Nat) (cb : Array Value) (n : Nat) (p : Nat → Bool) (w : World) (hsz : n < 4611686018427387904) (eg : ∀ args w, (callFunc f args).run Tryd.prog w = .ok (.enter f args) w)
    (hf : ∀ (m : Nat) (i : Nat), i < n → Calls Tryd.prog f (#[.int .i64 i] ++ cb) (w.drewN m) fun e w' => e = .returned (.bool (p i)) ∧ Drawn0 (w.drewN m) w')
    (hmono : ∀ a b, a ≤ b → b < n → p a = true → p b = true) :
    Calls Tryd.prog 58 #[.int .i64 n, .func (.func f) #[] cb] w fun e w' => ∃ r : Nat, e = .returned (.int .i64 r) ∧ r ≤ n ∧ (∀ t, t < r → p t = false) ∧ (∀ t, r ≤ t → t < n → p t = true) ∧ Drawn0 w w' := by
  have HF := Aside0.mk hf
  have M := Aside0.mk hmono
  clear hf hmono
  go_enter Tryd.func58, Tryd.ntmps58
  go_wp2_with fail
  go_loopg [5, 6] n (fun kx s5 s6 wr => ∃ (lo hi q : Nat), s5 = .int .i64 lo ∧ s6 = .int .i64 hi ∧ lo ≤ hi ∧ hi ≤ n ∧ hi - lo ≤ kx ∧ wr = w.drewN q ∧
    Aside0 ((∀ t, t < lo → p t = false) ∧ (∀ t, hi ≤ t → t < n → p t = true)))
  case atStart => exact ⟨0, n, 0, rfl, rfl, Nat.zero_le _, Nat.le_refl _, by omega, rfl, ⟨fun t ht => absurd ht (Nat.not_lt_zero _), fun t h1 h2 => by omega⟩⟩
  case round =>
    obtain ⟨lo, hi, q, rfl, rfl, hlh, hin, hg, rfl, I⟩ := hrel
    by_cases hlt : lo < hi
    · have hc := HF.out q ((lo + hi) / 2) (by omega)
      rw [show (((lo + hi) / 2 : Nat) : Int) = ((lo : Int) + (hi : Int)) / 2 by omega] at hc
      cases hp : p ((lo + hi) / 2) <;> rw [hp] at hc
      · have HP := Aside0.mk hp
        clear hp
        go_wp2_with (go_at_fn f; refine hc.mono ?_; rintro e w' ⟨rfl, nq, rfl⟩)
        go_roundg (hi - ((lo + hi) / 2 + 1))
        case measure => omega
        case rel =>
          exact ⟨(lo + hi) / 2 + 1, hi, q + nq, by rw [show ((lo : Int) + (hi : Int)) / 2 + 1 = (((lo + hi) / 2 + 1 : Nat) : Int) by omega], rfl, by omega, hin, Nat.le_refl _, rfl, ⟨fun t ht => (by
            cases h : p t with
            | false => rfl
            | true => have := M.out t ((lo + hi) / 2) (by omega) (by omega) h; rw [HP.out] at this; cases this), I.out.2⟩⟩
      · have HP := Aside0.mk hp
        clear hp
        go_wp2_with (go_at_fn f; refine hc.mono ?_; rintro e w' ⟨rfl, nq, rfl⟩)
        go_roundg ((lo + hi) / 2 - lo)
        case measure => omega
        case rel =>
          exact ⟨lo, (lo + hi) / 2, q + nq, rfl, by rw [show ((lo : Int) + (hi : Int)) / 2 = (((lo + hi) / 2 : Nat) : Int) by omega], by omega, by omega, Nat.le_refl _, rfl, ⟨I.out.1, fun t ht htn => M.out ((lo + hi) / 2) t ht htn HP.out⟩⟩
    · obtain rfl : hi = lo := by omega
      go_wp2_with fail
      go_ret
      exact ⟨hi, rfl, hin, I.out.1, I.out.2, ⟨q, rfl⟩⟩
theorem sz_alloc {w : World} {o : Obj} : (w.alloc o).heap.size = w.heap.size + 1 := by simp only [World.alloc, Array.size_push]
theorem cell_new1 (W : World) (v : Value) (t : TypeId) : (W.alloc (.cells #[v] t)).cell? ⟨W.heap.size, 0, none⟩ = some v := by
  rw [World.cell?_alloc_at _ _ _ _ (by simp)]; rfl
/-- The places rise, and none is above the top. -/
structure Ris (l : List Pl) (top : Int) : Prop where
  up : ∀ i j, i < j → j < l.length → (rd_T74 l i).f0 < (rd_T74 l j).f0
  one : ∀ i, i < l.length → 1 ≤ (rd_T74 l i).f0
  top : ∀ i, i < l.length → (rd_T74 l i).f0 ≤ top
  big : l.length ≤ 1000000000
/-- n is the place of a UID; 0: there is none. -/
def IsPlace (l : List Pl) (uid : Int) (n : Nat) : Prop :=
  (1 ≤ n ∧ n ≤ l.length ∧ (rd_T74 l (n - 1 : Nat)).f0 = uid) ∨ (n = 0 ∧ ∀ i, i < l.length → (rd_T74 l i).f0 ≠ uid)
set_option maxHeartbeats 4000000 in
set_option maxRecDepth 100000 in
theorem placesPlace_ok (N0 g : Nat) (v : Value) (l : List Pl) (top uid : Int) (w : World) (h : VW N0 w g v l top) (hr : Ris l top) :
    Calls Tryd.prog 50 #[.pointer (some ⟨g, 0, none⟩), .int .i64 uid] w fun e w' => ∃ n : Nat, e = .returned (.int .i64 n) ∧ IsPlace l uid n ∧ Below w.heap.size w w' := by
  have eg : ∀ args w, (callFunc 59 args).run Tryd.prog w = .ok (.enter 59 args) w := enters_of Tryd.func59 (by kernel_rfl) rfl
  have EG := Aside0.mk eg
  have HR := Aside0.mk hr
  obtain ⟨A, c, rfl, hlc, hC⟩ := h.slice
  obtain ⟨W0, hW0⟩ : ∃ W0, W0 = (w.alloc (.cells #[.pointer (some ⟨g, 0, none⟩)] 88)).alloc (.cells #[.int .i64 uid] 3) := ⟨_, rfl⟩
  have hV : VW N0 W0 g (.slice A l.length c) l top := by rw [hW0]; exact (h.alloc _).alloc _
  have h1 : W0.cell? ⟨w.heap.size, 0, none⟩ = some (.pointer (some ⟨g, 0, none⟩)) := by
    rw [hW0]
    exact (((Below.refl _ _).alloc (Nat.le_refl _) _).cell (sz_alloc ▸ Nat.lt_succ_self _)).trans (cell_new1 _ _ _)
  have h2 : W0.cell? ⟨w.heap.size + 1, 0, none⟩ = some (.int .i64 uid) := by
    rw [hW0, ← sz_alloc (w := w) (o := .cells #[.pointer (some ⟨g, 0, none⟩)] 88)]
    exact cell_new1 _ _ _
  have hb0 : Below w.heap.size w W0 := by
    rw [hW0]
    exact ((Below.refl _ w).alloc (Nat.le_refl _) _).alloc (by rw [sz_alloc]; omega) _
  have hp := fun (m i : Nat) (hi : i < l.length) => placeClosure_ok N0 g w.heap.size (w.heap.size + 1) (.slice A l.length c) l top uid (W0.drewN m) (hV.drewN m) ((pw_below_drewN (Below.refl _ W0) m).cell (World.block_lt_of_cell? _ _ h1) |>.trans h1) ((pw_below_drewN (Below.refl _ W0) m).cell (World.block_lt_of_cell? _ _ h2) |>.trans h2) i hi
  have hS := sortSearch_ok 59 #[.pointer (some ⟨w.heap.size, 0, none⟩), .pointer (some ⟨w.heap.size + 1, 0, none⟩)] l.length (fun i => decide (uid ≤ (rd_T74 l i).f0)) W0 (by have := hr.big; omega) eg hp (fun a b hab hb ha => by
    have h1 := of_decide_eq_true ha
    refine decide_eq_true ?_
    by_cases hab' : a = b
    · subst hab'; exact h1
    · have := hr.up a b (by omega) hb; omega)
  have HS := Aside0.mk hS
  have HV := Aside0.mk hV
  have HB0 := Aside0.mk hb0
  have HW0 := Aside0.mk hW0
  have hc0 := hV.cell0
  rw [hW0] at hc0
  have H1 := Aside0.mk h1
  have H2 := Aside0.mk h2
  clear hS hp hV h1 h2 hb0 hW0 hC h eg hr
  go_enter Tryd.func50, Tryd.ntmps50
  go_wp2_with fail
  rw [← HW0.out]
  refine HS.out.mono ?_
  rintro e w1 ⟨r, rfl, hrl, hlo, hhi, n1, rfl⟩
  have HLO := Aside0.mk hlo
  have HHI := Aside0.mk hhi
  have hc1 := HV.out.cell0
  have h1 := H1.out
  have h2 := H2.out
  have HD := Aside0.mk (pw_below_drewN HB0.out n1)
  obtain ⟨A2, c2, e2, hlc2, hC2⟩ := HV.out.slice
  cases e2
  have HC2 := Aside0.mk hC2
  clear hlo hhi hc0 hC2 hlc2
  by_cases c1 : r < l.length
  · have q0 : (0 : Int) ≤ (r : Int) := by omega
    have q1 : (r : Int) < (l.length : Int) := by omega
    obtain ⟨ad, A1, cc1, rfl, hx0, hx1, hl1, hi1⟩ := at_T74 HC2.out (r : Int) q0 q1
    rw [Int.toNat_natCast] at hx0
    have q1b : decide ((r : Int) < (l.length : Int)) = true := decide_eq_true q1
    replace q1 := eq_true q1
    have Q2 := Aside0.mk c1
    have q2 := eq_true c1
    clear hx1 hi1 hl1 c1
    by_cases ce : (rd_T74 l r).f0 = uid
    · have CE := Aside0.mk ce
      have ceb : ((rd_T74 l r).f0 == uid) = true := beq_iff_eq.mpr ce
      clear ce
      go_wp2_with fail
      repeat (go_quiet (fail))
      go_wp2_with fail
      go_ret
      refine ⟨r + 1, ?_, .inl ⟨by omega, by have := Q2.out; omega, CE.out⟩, by repeat (first | exact HB0.out | apply pw_below_drewN)⟩
      rw [show wrap64 ((r : Int) + 1) = ((r + 1 : Nat) : Int) by have := Q2.out; have := HR.out.big; unfold wrap64; omega]
      rfl
    · have CE := Aside0.mk ce
      have ceb : ((rd_T74 l r).f0 == uid) = false := beq_eq_false_iff_ne.mpr ce
      clear ce
      go_wp2_with fail
      repeat (go_quiet (fail))
      go_wp2_with fail
      go_ret
      refine ⟨0, rfl, .inr ⟨rfl, fun i hi => ?_⟩, by repeat (first | exact HB0.out | apply pw_below_drewN)⟩
      have hr := Q2.out
      by_cases h1 : i < r
      · have := of_decide_eq_false (HLO.out i h1); omega
      · have := of_decide_eq_true (HHI.out r (Nat.le_refl _) hr)
        have := CE.out
        by_cases h2 : i = r
        · rw [h2]; exact this
        · have := HR.out.up r i (by omega) hi; omega
  · have q1b : decide ((r : Int) < (l.length : Int)) = false := decide_eq_false (by omega)
    have Q2 := Aside0.mk c1
    have q2 := eq_false c1
    have q3 := eq_false (show ¬ ((r : Int) < (l.length : Int)) by omega)
    have hge : l.length ≤ r := by omega
    clear c1
    go_wp2_with fail
    repeat (go_quiet (fail))
    go_wp2_with fail
    go_ret
    refine ⟨0, rfl, .inr ⟨rfl, fun i hi => ?_⟩, by repeat (first | exact HB0.out | apply pw_below_drewN)⟩
    have hr := Q2.out
    have := of_decide_eq_false (HLO.out i (by omega)); omega
set_option maxHeartbeats 2000000 in
set_option maxRecDepth 100000 in
theorem viewPlace_ok (N0 g : Nat) (v : Value) (l : List Pl) (top uid : Int) (w : World) (h : VW N0 w g v l top) (hr : Ris l top) :
    Calls Tryd.prog 27 #[.pointer (some ⟨g, 0, none⟩), .int .i64 uid] w fun e w' => ∃ n : Nat, e = .returned (.int .i64 n) ∧ IsPlace l uid n ∧ Below w.heap.size w w' := by
  have H := Aside0.mk h
  have HR := Aside0.mk hr
  clear h hr
  go_enter Tryd.func27, Tryd.ntmps27
  go_wp2_with fail
  refine (placesPlace_ok N0 g v l top uid _ H.out HR.out).mono ?_
  rintro e w1 ⟨n, rfl, hn, hb⟩
  have HN := Aside0.mk hn
  have HB := Aside0.mk hb
  clear hn hb
  go_wp2_with fail
  go_ret
  exact ⟨n, rfl, HN.out, HB.out⟩
end Go.Proofs.YtmpngedfnheilaaDoor.PP

namespace Go.Proofs.YtmpngedfnheilaaDoor.PP
open Go.RowKit Go.Proofs.YtmpngedfnheilaaDoorW.PrintWords Go.Proofs.YtmpngedfnheilaaDoorW.PrintLast Go.Proofs.YtmpngedfnheilaaDoorW.PrintMore
open Go.Proofs.YtmpngedfnheilaaDoor.My
set_option linter.unusedVariables false
set_option linter.unusedSimpArgs false
/-- The row of a View's places. -/
def PRow (w : World) (N0 : Nat) (v : Value) (l : List Pl) : Prop := Kd.N k74 74 w N0 (fun k => T9 w k ∨ v.ownBlock = some k) v l
section
variable {N0 : Nat} {w w' W : World} {g : Nat} {v v1 : Value} {l : List Pl} {top : Int}
theorem T9_ne {k t : Nat} {c : Array Value} (h : T9 w k) (hb : w.heap[g]? = some (.cells c t (0, 0))) (ht : 9 ≠ t) : k ≠ g := by
  rintro rfl
  obtain ⟨c2, h⟩ := h
  rw [h] at hb
  injection hb with hb
  injection hb with _ hb _
  exact ht hb
theorem PRow.ne9 (h : PRow w N0 v l) {k : Nat} (hk : T9 w k) : some k ≠ v.ownBlock := by
  obtain ⟨c, hc⟩ := hk
  exact Kd.N_ne h hc (by decide)
theorem PRow.keep (h : PRow w N0 v l) (hr : ∀ k, v.ownBlock = some k → w'.heap[k]? = w.heap[k]?) (ht : ∀ k, T9 w k → w'.heap[k]? = w.heap[k]?) : PRow w' N0 v l :=
  Kd.N_mono (Kd.N_step h (fun k hk _ => hk.elim (ht k) (hr k))) (fun k hk => hk.imp (fun ⟨c, hc⟩ => ⟨c, (ht k ⟨c, hc⟩).trans hc⟩) id)
/-- By elements: each leads to rows of texts alone. -/
theorem PRow.rows (h : PRow w N0 v l) : ∃ rows : List (List Value), rows.length = l.length ∧ (Kd.raw 2).R 74 w N0 (fun k => some k = v.ownBlock) v rows ∧ ∀ (j : Nat) (x : Pl) (c : List Value), l[j]? = some x → rows[j]? = some c → Kd.FK k74 w (T9 w) x c := by
  have hn := fun k (hk : T9 w k) => h.ne9 hk
  obtain ⟨_, rows, hl, hR, hf⟩ := h
  exact ⟨rows, hl, hR, fun j x c hx hc => Kd.FK_mono (hf j x c hx hc) (fun k hk => hk.1.elim id (fun e => absurd e.symm hk.2))⟩
theorem PRow.mk {rows : List (List Value)} (hl : rows.length = l.length) (hR : (Kd.raw 2).R 74 w N0 (fun _ => True) v rows) (hf : ∀ (j : Nat) (x : Pl) (c : List Value), l[j]? = some x → rows[j]? = some c → Kd.FK k74 w (T9 w) x c) : PRow w N0 v l := by
  refine ⟨fun k hk => .inr hk, rows, hl, Kd.raw_tight hR, fun j x c hx hc => Kd.FK_mono (hf j x c hx hc) (fun k hk => ⟨.inl hk, ?_⟩)⟩
  obtain ⟨c2, hc2⟩ := hk
  exact Kd.R_ne hR hc2 (by decide)
/-- What leads to rows of texts alone, in a later world. -/
theorem FK9_step {x : Pl} {c : List Value} (h : Kd.FK k74 w (T9 w) x c) (ht : ∀ k, T9 w k → w'.heap[k]? = w.heap[k]?) : Kd.FK k74 w' (T9 w') x c :=
  Kd.FK_mono (Kd.FK_step h (fun k hk _ => ht k hk)) (fun k ⟨c, hc⟩ => ⟨c, (ht k ⟨c, hc⟩).trans hc⟩)
/-- The flags of a place, as search.Flags hands them back. -/
theorem FK9_mk {vf : Value} {uid : Int} {fs : List ByteArray} {base : Nat} (h : Kd.R Kd.string 9 w base (fun _ => True) vf fs) : Kd.FK k74 w (T9 w) (⟨uid, fs⟩ : Pl) [.int .i64 uid, vf] := by
  have ho := Kd.own_of_R h
  exact Kd.FK_of_M (k74_mkM w base (T9 w) (⟨uid, fs⟩ : Pl) (Kd.R_of_own ho (fun k hk => Kd.R_typed h k hk)))
theorem VW.prow (h : VW N0 w g v l top) : PRow w N0 v l := h.row
theorem VW.set0 (hb : w.heap[g]? = some (.cells #[v, .int .i64 top] 70 (0, 0))) (hg : N0 ≤ g) (hr : PRow w N0 v1 l) : VW N0 (w.setCell ⟨g, 0, none⟩ v1) g v1 l top := by
  have hne : ∀ k, k ≠ g → (w.setCell ⟨g, 0, none⟩ v1).heap[k]? = w.heap[k]? := fun k hk => Below.heap_setCell w ⟨g, 0, none⟩ v1 k hk
  refine ⟨(blk_set hb 0 v1).trans ?_, hg, hr.keep (fun k hk => hne k ?_) (fun k hk => hne k (T9_ne hk hb (by decide)))⟩
  · simp
  · rintro rfl
    exact Kd.N_ne hr hb (by decide) hk.symm
theorem VW.set1 (h : VW N0 w g v l top) (u : Int) : VW N0 (w.setCell ⟨g, 1, none⟩ (.int .i64 u)) g v l u := by
  have hne : ∀ k, k ≠ g → (w.setCell ⟨g, 1, none⟩ (.int .i64 u)).heap[k]? = w.heap[k]? := fun k hk => Below.heap_setCell w ⟨g, 1, none⟩ _ k hk
  refine ⟨(blk_set h.blk 1 _).trans ?_, h.ge, h.prow.keep (fun k hk => hne k ?_) (fun k hk => hne k (T9_ne hk h.blk (by decide)))⟩
  · simp
  · rintro rfl
    exact Kd.N_ne h.prow h.blk (by decide) hk.symm
end
section
variable {P : Program} {ops : Array Oper} {o : Oper} {a : Act} {Q : Exit → Act → World → Prop} {Kc : Act → World → Prop}
theorem PRow_append_step {w0 W : World} {N0 : Nat} (hw : Region.wanted o (yielded ops a.tmps) = true) (s x : Operand) (t : TypeId) (z : Value) (bytes : Nat)
    (ho : o.op = .call { callee := .builtin .append, args := #[s, x], argTypes := #[t, t] })
    (ht : P.underlying t = some (.slice 74)) (hinfo : (P.info? 74).map (fun i => (i.zero, i.size, i.bytes)) = some (some z, 2, bytes)) (hz : z.cells.size = 2) (hb0 : 0 < bytes)
    (v : Value) (xs : List Pl) (p : Pl) (cs : List Value) (hs : a.eval s = v) (hx : a.eval x = .slice (some ⟨W.heap.size, 0, none⟩) 1 1) (hp : Kd.FK k74 W (T9 W) p cs)
    (HO : PRow W N0 v xs) (HB : Below N0 w0 W) (hbase : N0 ≤ W.heap.size) (hl : (xs.length + 1) * bytes ≤ 140737488355328)
    (h : ∀ v1 w1, PRow w1 N0 v1 (xs ++ [p]) → Below N0 w0 w1 → W.grownBy w1 v.ownBlock → (v1.ownBlock = v.ownBlock ∨ ∃ b, v1.ownBlock = some b ∧ W.heap.size ≤ b) → Kc (a.put o.dst v1) w1) :
    if Region.wanted o (yielded ops a.tmps) = true then Oper.wp P o a (W.alloc (.cells cs.toArray 74)) Kc Q else Kc (a.put o.dst undef) (W.alloc (.cells cs.toArray 74)) := by
  have hn := fun k (hk : T9 W k) => HO.ne9 hk
  obtain ⟨rows, hlr, hR, hf⟩ := HO.rows
  refine Kd.R_append_step (Kd.raw 2) N0 hw s x t 74 z bytes ho ht hinfo hz (by decide) hb0 v rows cs cs (fun _ => True) (fun _ => False) hs hx (Kd.FK_raw hp) (fun _ hk => hk.elim) (fun _ _ => trivial) (Kd.raw_any hR) HB hbase (by rw [hlr]; exact hl) ?_
  intro v1 w1 hr hb hg hat
  have ht9 : ∀ k, T9 W k → w1.heap[k]? = W.heap[k]? := fun k hk => hg.block k hk.lt (hn k hk)
  refine h v1 w1 (PRow.mk (rows := rows ++ [cs]) (by simp [hlr]) hr (fun j y c hy hc => ?_)) hb hg hat
  by_cases hj : j < xs.length
  · rw [List.getElem?_append_left hj] at hy
    rw [List.getElem?_append_left (by omega)] at hc
    exact FK9_step (hf j y c hy hc) ht9
  · rw [List.getElem?_append_right (by omega)] at hy hc
    rw [hlr] at hc
    rcases hjj : j - xs.length with _ | m
    · rw [hjj] at hy hc
      simp only [List.getElem?_cons_zero, Option.some.injEq] at hy hc
      rw [← hy, ← hc]
      exact FK9_step hp ht9
    · rw [hjj] at hy
      simp at hy
end
end Go.Proofs.YtmpngedfnheilaaDoor.PP
