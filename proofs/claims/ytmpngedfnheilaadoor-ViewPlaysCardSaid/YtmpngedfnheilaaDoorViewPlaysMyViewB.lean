/- PPx6, MyViewB (mergeall.py). -/
import Derived.Test.YtmpngedfnheilaaDoorViewPlaysPPx0
import Derived.Test.YtmpngedfnheilaaDoorViewPlaysPPx4
import Derived.Test.YtmpngedfnheilaaDoorViewPlaysPPx5
import Derived.Test.YtmpngedfnheilaaDoorViewPlaysMyViewA
namespace Go.Proofs.YtmpngedfnheilaaDoor.PP
open Go.RowKit Go.Proofs.YtmpngedfnheilaaDoorW.PrintWords Go.Proofs.YtmpngedfnheilaaDoorW.PrintLast Go.Proofs.YtmpngedfnheilaaDoorW.PrintMore
attribute [local go_sem] max2_int min2_int max_two min_two max_three min_three max_four min_four   -- for this text's walks alone
open Go.Proofs.YtmpngedfnheilaaDoor.My
set_option linter.unusedVariables false
set_option linter.unusedSimpArgs false
abbrev bsB (l : List (List UInt8)) : List ByteArray := l.map fun x => ⟨x.toArray⟩
def sortB (l : List ByteArray) : List ByteArray := bsB ((l.map fun x => x.data.toList).mergeSort fun x y => decide (x ≤ y))
theorem bsB_of (l : List ByteArray) : l = bsB (l.map fun x => x.data.toList) := by
 rw [bsB, List.map_map]
 exact (List.map_id l).symm.trans (List.map_congr_left (fun x _ => rfl))
def search_Flags.l0 : Nat → List ByteArray → List ByteArray → Int → Option (List ByteArray)
 | 0, _, _, _ => none
 | k + 1, l, acc, i => if i < (l.length : Int) then (if 0 ≤ i then ((search_kept.f k (rdOf ByteArray.empty l i)).bind fun f => (if f.toList = ([] : List UInt8) then search_Flags.l0 k l acc (wrap64 (i + 1)) else
   ((slices_Contains_string_string.f k acc f).bind fun c => (if c = true then search_Flags.l0 k l acc (wrap64 (i + 1)) else (if (acc.length : Int) < 20 then search_Flags.l0 k l (acc ++ [f]) (wrap64 (i + 1)) else search_Flags.l0 k l acc (wrap64 (i + 1))))))) else none)
  else (if acc.length ≤ 1000 then some (sortB acc) else none)
def search_Flags.f (k : Nat) (l0 : List ByteArray) : Option (List ByteArray) := search_Flags.l0 k l0 [] 0
theorem sort_own (v : Value) (ss : List (List UInt8)) (base : Nat) (w : World) (h : Kd.R Kd.string 9 w base (fun _ => True) v (bsB ss)) (hs : ss.length ≤ 1000000) :
  Calls Tryd.prog 55 #[v] w fun e w' => e = .returned (.tuple #[]) ∧ Kd.R Kd.string 9 w' base (fun _ => True) v (bsB (ss.mergeSort fun x y => decide (x ≤ y))) ∧ w.grownBy w' v.ownBlock := by
 have ho := Kd.own_of_R h
 have hlen : (bsB ss).length = ss.length := by simp
 obtain ⟨hl, ⟨rfl, h0⟩ | ⟨g, cap, cur, rfl, hg, hh, hc1, hc2, hc3, hc4⟩⟩ := ho
 ·
  rw [hlen] at h0
  obtain rfl : ss = [] := List.length_eq_zero_iff.1 h0
  refine (sortS_none none 0 w).mono ?_
  rintro e w' ⟨rfl, rfl⟩
  exact ⟨rfl, by simpa using h, ⟨rfl, rfl, rfl, Nat.le_refl _, fun _ _ _ => rfl⟩⟩
 ·
  have hH : Sort.Holds Go.Proofs.encStr w g 0 ss.toArray := by
   intro j hj
   have hj' : j < ss.length := by simpa using hj
   have hc := Kd.R_cell (d := ByteArray.empty) h (j : Int) (by omega) (by rw [hlen]; omega)
   rw [Int.toNat_natCast] at hc
   rw [Nat.zero_add]
   refine ⟨?_, hc.2⟩
   rw [hc.1]
   unfold rdOf Go.Proofs.encStr
   simp [hj', List.getD_eq_getElem?_getD]
  have hgl : g < w.heap.size := (Array.getElem?_eq_some_iff.1 hh).1
  rw [hlen]
  refine (sortS_any g 0 cap ss w hH hgl (by omega)).mono ?_
  rintro e w' ⟨rfl, n, os, rfl⟩
  obtain ⟨ss', hss⟩ : ∃ ss', ss' = ss.mergeSort fun x y => decide (x ≤ y) := ⟨_, rfl⟩
  have hsl : ss'.length = ss.length := by rw [hss, List.length_mergeSort]
  rw [← hss]
  have hb : ∀ k, k < w.heap.size → (Sort.grow (Sort.putRow Go.Proofs.encStr (Sort.ahead w n) g 0 ss'.toArray) os).heap[k]? = if k = g then some (.cells (Sort.putCells Go.Proofs.encStr 0 ss'.toArray cur) 9 (0, 0)) else w.heap[k]? := by
   intro k hk
   unfold Sort.grow Sort.putRow Sort.mapBlock Sort.ahead
   simp only
   rw [Array.getElem?_append_left (by simpa using hk), Array.getElem?_modify]
   by_cases hkg : k = g
   ·
    subst hkg
    simp [hh, Sort.onCells]
   ·
    rw [if_neg hkg, if_neg (fun e => hkg e.symm)]
  refine ⟨rfl, Kd.R_of_own ⟨?_, .inr ⟨g, cap, Sort.putCells Go.Proofs.encStr 0 ss'.toArray cur, ?_, hg, ?_, ?_, hc2, ?_, ?_⟩⟩ (fun _ _ => trivial), ⟨rfl, rfl, rfl, ?_, ?_⟩⟩
  ·
   simp [encs]
  ·
   simp [hsl]
  ·
   rw [hb g hgl, if_pos rfl]
  ·
   rw [hlen] at hc1
   simpa [hsl] using hc1
  ·
   simp [Sort.putCells, hc3]
  ·
   rw [hlen] at hc1 hc4
   apply List.ext_getElem?
   intro j
   simp only [List.getElem?_take, Nat.mul_one, List.length_map, hsl, encs, List.getElem?_map]
   by_cases hj : j < ss.length
   ·
    have hjc : j < cur.size := by rw [hc3]; omega
    rw [if_pos hj]
    unfold Sort.putCells
    simp [hj, hsl, hjc]
   ·
    rw [if_neg hj]
    simp [hsl, hj]
  ·
   unfold Sort.grow Sort.putRow Sort.mapBlock Sort.ahead
   simp
  ·
   intro k hk hne
   rw [hb k hk, if_neg (fun e => hne (by rw [e]; rfl))]
set_option maxHeartbeats 4000000 in
set_option maxRecDepth 100000 in
theorem search_Flags.calls (k : Nat) (A0 : Option Addr) (c0 : Nat) (l0 : List ByteArray) (r : List ByteArray) (w : World) (hr0 : Kd.C Kd.string w A0 l0.length l0) (hc0 : l0.length ≤ c0) (h : search_Flags.f k l0 = some r) :
  Calls Tryd.prog 39 #[.slice A0 l0.length c0] w fun e w' => ∃ v0_ : Value, e = .returned v0_ ∧ Kd.R Kd.string 9 w' w.heap.size (fun _ => True) v0_ r ∧ Below w.heap.size w w' := by
 have HR0 := Aside0.mk hr0
 have HC0 := Aside0.mk hc0
 have H' := Aside0.mk (show search_Flags.l0 k l0 [] 0 = some r from h)
 clear hr0 hc0 h
 go_enter Tryd.func39, Tryd.ntmps39
 go_wp2_with fail
 go_loopg [3, 5, 8] k (fun kq v3 _ v8 wr => ∃ (acc : List ByteArray) (i : Int), v8 = .int .i64 i ∧ Aside0 (search_Flags.l0 kq l0 acc i = some r) ∧ Aside0 (kq ≤ k) ∧ Aside0 (Kd.R Kd.string 9 wr w.heap.size (fun _ => True) v3 acc) ∧ Aside0 (Below w.heap.size w wr))
 case atStart => exact ⟨[], 0, rfl, H', ⟨Nat.le_refl _⟩, ⟨Kd.R_nil _ _ _ _ _⟩, ⟨Below.refl _ _⟩⟩
 case round =>
  obtain ⟨acc, i, rfl, HA, HK, HR, HW⟩ := hrel
  clear H'
  cases gk with
  | zero => exact absurd HA.out (by simp [search_Flags.l0])
  | succ g =>
   have H := HA.out
   clear HA
   simp only [search_Flags.l0] at H
   by_cases c1 : i < (l0.length : Int)
   ·
    rw [if_pos c1] at H
    by_cases c2 : 0 ≤ i
    ·
     rw [if_pos c2] at H
     obtain ⟨f, hf, H⟩ := Option.bind_eq_some_iff.1 H
     have HF := Aside0.mk hf
     obtain ⟨ad, e0, hx0⟩ := Kd.at_string HR0.out i c2 c1
     cases e0
     replace hx0 := (HW.out.cell (World.block_lt_of_cell? w _ hx0)).trans hx0
     have c1b : decide (i < (l0.length : Int)) = true := decide_eq_true c1
     clear hf
     have HH := Aside0.mk H
     clear H
     go_wp2_with fail
     refine (search_kept.calls g _ f _ HF.out).mono ?_
     rintro e w1 ⟨rfl, hb1⟩
     have HR := Aside0.mk (Kd.R_below HR.out hb1)
     have HW := Aside0.mk (HW.out.trans (hb1.mono HW.out.size))
     clear hb1 hx0
     have H := HH.out
     clear HH
     by_cases hz : f.toList = ([] : List UInt8)
     ·
      rw [if_pos hz] at H
      have hz2 : f.toList.isEmpty = true := by rw [hz]; rfl
      have H' := Aside0.mk H
      clear H hz
      go_wp2_with fail
      go_roundg g
      case measure => omega
      case rel => exact ⟨acc, wrap64 (i + 1), rfl, H', ⟨by have := HK.out; omega⟩, HR, HW⟩
     ·
      rw [if_neg hz] at H
      have hz2 : f.toList.isEmpty = false := by simpa using hz
      obtain ⟨c, hc, H⟩ := Option.bind_eq_some_iff.1 H
      have HC := Aside0.mk hc
      have HH := Aside0.mk H
      obtain ⟨Ao, co, eo⟩ := Kd.R_slice HR.out
      subst eo
      clear hc H hz
      go_wp2_with fail
      refine (slices_Contains_string_string.calls g _ _ acc f c _ (Kd.R_reads' HR.out).2.2 (Kd.R_reads' HR.out).2.1 HC.out).mono ?_
      rintro e w2 ⟨rfl, n2, rfl⟩
      have HW := Aside0.mk (show Below w.heap.size w (w1.drewN n2) by apply pw_below_drewN; exact HW.out)
      have HR := Aside0.mk (Kd.R_drewN HR.out n2)
      have H := HH.out
      clear HH
      cases c with
      | true =>
       rw [if_pos rfl] at H
       have H' := Aside0.mk H
       clear H
       go_wp2_with fail
       go_roundg g
       case measure => omega
       case rel => exact ⟨acc, wrap64 (i + 1), rfl, H', ⟨by have := HK.out; omega⟩, HR, HW⟩
      | false =>
       rw [if_neg (by decide)] at H
       by_cases c20 : (acc.length : Int) < 20
       ·
        rw [if_pos c20] at H
        have c20b : decide ((acc.length : Int) < 20) = true := decide_eq_true c20
        have C20 := Aside0.mk c20
        have H' := Aside0.mk H
        clear H c20
        go_wp2_with (first | ((with_reducible refine gate_builtin (b := .append) (xs := #[.tmp 27, .tmp 29]) rfl ?_); (try (refine gate_guard (by rfl) ?_; dsimp only)); at_builtin; refine Kd.R_append Kd.string (w0 := w) w.heap.size rfl (.tmp 27) (.tmp 29) 31 9 (.string ⟨#[]⟩) 16 rfl Tryd.underlying31 info9 rfl (by decide) (by omega) (.slice Ao acc.length co) acc f [.string f] (fun _ => True) (fun _ => False) rfl rfl ?aP (fun _ hk => hk.elim) ?aF ?aO ?aB ?aS ?aL ?_; (case aP => exact rfl); (case aB => exact (by repeat (first | (with_reducible first | exact HW.out | apply below_alloc | apply pw_below_drewN | apply below_drew1) | exact HW.out))); (case aF => exact (fun _ _ => trivial)); (case aO => exact (by (with_reducible repeat (first | apply Kd.R_alloc | apply Kd.R_drewN | apply Kd.R_drew)); exact HR.out)); (case aS => exact (below_size (by repeat (first | (with_reducible first | exact HW.out | apply below_alloc | apply pw_below_drewN | apply below_drew1) | exact HW.out)))); (case aL => have := C20.out; omega); intro v30 w3 ho hb hg hat; have HR3 := Aside0.mk ho; have HW3 := Aside0.mk hb; clear ho hb hg hat))
        go_roundg g
        case measure => omega
        case rel => exact ⟨acc ++ [f], wrap64 (i + 1), rfl, H', ⟨by have := HK.out; omega⟩, HR3, HW3⟩
       ·
        rw [if_neg c20] at H
        have c20b : decide ((acc.length : Int) < 20) = false := decide_eq_false c20
        have H' := Aside0.mk H
        clear H c20
        go_wp2_with fail
        go_roundg g
        case measure => omega
        case rel => exact ⟨acc, wrap64 (i + 1), rfl, H', ⟨by have := HK.out; omega⟩, HR, HW⟩
    ·
     rw [if_neg c2] at H; cases H
   ·
    rw [if_neg c1] at H
    have c1b : decide (i < (l0.length : Int)) = false := decide_eq_false c1
    by_cases c3 : acc.length ≤ 1000
    ·
     rw [if_pos c3] at H
     have HE := Aside0.mk (Option.some.inj H)
     have C3 := Aside0.mk c3
     clear H c3
     have hR := HR.out
     rw [bsB_of acc] at hR
     have HS := Aside0.mk hR
     clear hR HR
     go_wp2_with fail
     refine (sort_own _ _ _ _ HS.out (by have := C3.out; rw [List.length_map]; omega)).mono ?_
     rintro e w1 ⟨rfl, hr1, hg1⟩
     have HR1 := Aside0.mk hr1
     have HW1 := Aside0.mk (HW.out.grown hg1 HW.out.size (own_base (Kd.own_of_R HS.out)))
     clear hr1 hg1
     go_wp2_with fail
     go_ret
     exact ⟨_, rfl, HE.out ▸ HR1.out, HW1.out⟩
    ·
     rw [if_neg c3] at H; cases H
end Go.Proofs.YtmpngedfnheilaaDoor.PP

namespace Go.Proofs.YtmpngedfnheilaaDoor.PP
open Go.RowKit Go.Proofs.YtmpngedfnheilaaDoorW.PrintWords Go.Proofs.YtmpngedfnheilaaDoorW.PrintLast Go.Proofs.YtmpngedfnheilaaDoorW.PrintMore
open Go.Proofs.YtmpngedfnheilaaDoor.My
set_option linter.unusedVariables false
set_option linter.unusedSimpArgs false
theorem sl_new (wr : World) (o : Obj) : Go.Value.slice (some ⟨wr.heap.size + 1, 0, none⟩) 1 1 = .slice (some ⟨(wr.alloc o).heap.size, 0, none⟩) 1 1 := by
  simp only [World.alloc, Array.size_push]
theorem take_snoc {α : Type} (l : List α) (i : Nat) (d : α) (h : i < l.length) : l.take (i + 1) = l.take i ++ [l.getD i d] := by
  rw [List.take_add_one, List.getElem?_eq_getElem h]
  simp [List.getD_eq_getElem?_getD, List.getElem?_eq_getElem h]
set_option maxHeartbeats 4000000 in
set_option maxRecDepth 100000 in
theorem placesUIDs_ok (N0 g : Nat) (v : Value) (l : List Pl) (top : Int) (w : World) (h : VW N0 w g v l top) (hl : l.length ≤ 1000000000) :
    Calls Tryd.prog 38 #[.pointer (some ⟨g, 0, none⟩)] w fun e w' => ∃ v0 : Value, e = .returned v0 ∧ Kd.R (Kd.int .i64) 3 w' w.heap.size (fun _ => True) v0 (l.map (·.f0)) ∧ Below w.heap.size w w' := by
  have HL := Aside0.mk hl
  have hc0 := h.cell0
  obtain ⟨A, c, rfl, hlc, hC⟩ := h.slice
  have HC := Aside0.mk hC
  clear hC h hl
  go_enter Tryd.func38, Tryd.ntmps38
  go_wp2_with fail
  go_loopg [3, 11] l.length (fun kq v3 v11 wr => ∃ (x : Int) (i : Nat), v11 = .int .i64 x ∧ Aside0 (x = i ∧ i + kq = l.length) ∧ Aside0 (Kd.R (Kd.int .i64) 3 wr w.heap.size (fun _ => True) v3 ((l.take i).map (·.f0))) ∧ Aside0 (Below w.heap.size w wr))
  case atStart => exact ⟨0, 0, rfl, ⟨rfl, by omega⟩, ⟨Kd.R_nil _ _ _ _ _⟩, ⟨Below.refl _ _⟩⟩
  case round =>
    obtain ⟨x, i, rfl, HX, HR, HW⟩ := hrel
    cases gk with
    | zero =>
      have c1b : decide (x < (l.length : Int)) = false := decide_eq_false (by have := HX.out; omega)
      have HE : l.take i = l := List.take_of_length_le (by have := HX.out; omega)
      rw [HE] at HR
      clear HE
      go_wp2_with fail
      go_ret
      exact ⟨_, rfl, HR.out, HW.out⟩
    | succ k1 =>
      have q1 : x < (l.length : Int) := by have := HX.out; omega
      have q0 : 0 ≤ x := by have := HX.out; omega
      have c1b : decide (x < (l.length : Int)) = true := decide_eq_true q1
      obtain ⟨ad, A1, c1, rfl, hx0, hx1, hl1, hi1⟩ := at_T74 HC.out x q0 q1
      replace hx0 := (HW.out.cell (World.block_lt_of_cell? w _ hx0)).trans hx0
      replace hx1 := (HW.out.cell (World.block_lt_of_cell? w _ hx1)).trans hx1
      have q0b := eq_true q0
      have q1b := eq_true q1
      have HE : (l.take (i + 1)).map (·.f0) = (l.take i).map (·.f0) ++ [(rd_T74 l x).f0] := by
        have := HX.out
        rw [take_snoc l i z74 (by omega), List.map_append]
        unfold rd_T74
        rw [show x.toNat = i by omega]
        rfl
      have HLE := Aside0.mk HE
      have hi := Aside0.mk (show (i : Int) = x ∧ i < l.length by have := HX.out; omega)
      clear hi1 hl1 HE q0 q1
      obtain ⟨Ao, co, eo⟩ := Kd.R_slice HR.out
      subst eo
      have HLT := Aside0.mk (show ((l.take i).map (·.f0)).length < 17592186044416 by have := HL.out; simp; omega)
      generalize (l.take i).map (·.f0) = acc at HR HLE HLT ⊢
      go_wp2_with (first | ((with_reducible refine gate_builtin (b := .append) (xs := #[.tmp 15, .tmp 18]) rfl ?_); (try (refine gate_guard (by rfl) ?_; dsimp only)); at_builtin; refine Kd.R_append (Kd.int .i64) (w0 := w) w.heap.size rfl (.tmp 15) (.tmp 18) 34 3 (.int .i64 0) 8 rfl Tryd.underlying34 info3 rfl (by decide) (by omega) (.slice Ao acc.length co) acc ((rd_T74 l x).f0) [.int .i64 ((rd_T74 l x).f0)] (fun _ => True) (fun _ => False) rfl ?aX ?aP (fun _ hk => hk.elim) ?aF ?aO ?aB ?aS ?aL ?_; (case aX => exact sl_new wr _); (case aP => exact rfl); (case aB => exact (by repeat (first | (with_reducible first | exact HW.out | apply below_alloc | apply pw_below_drewN | apply below_drew1) | exact HW.out))); (case aF => exact (fun _ _ => trivial)); (case aO => exact (by (with_reducible repeat (first | apply Kd.R_alloc | apply Kd.R_drewN | apply Kd.R_drew)); exact HR.out)); (case aS => exact (below_size (by repeat (first | (with_reducible first | exact HW.out | apply below_alloc | apply pw_below_drewN | apply below_drew1) | exact HW.out)))); (case aL => have := HLT.out; omega); intro v30 w3 ho hb hg hat; have HR3 := Aside0.mk ho; have HW3 := Aside0.mk hb; clear ho hb hg hat))
      go_roundg k1
      case measure => omega
      case rel => exact ⟨wrap64 (x + 1), i + 1, rfl, ⟨by have := HX.out; have := HL.out; unfold wrap64; omega⟩, ⟨HLE.out ▸ HR3.out⟩, HW3⟩
set_option maxHeartbeats 2000000 in
set_option maxRecDepth 100000 in
theorem viewUIDs_ok (N0 g : Nat) (v : Value) (l : List Pl) (top : Int) (w : World) (h : VW N0 w g v l top) (hl : l.length ≤ 1000000000) :
    Calls Tryd.prog 14 #[.pointer (some ⟨g, 0, none⟩)] w fun e w' => ∃ v0 : Value, e = .returned v0 ∧ Kd.R (Kd.int .i64) 3 w' w.heap.size (fun _ => True) v0 (l.map (·.f0)) ∧ Below w.heap.size w w' := by
  have H := Aside0.mk h
  clear h
  go_enter Tryd.func14, Tryd.ntmps14
  go_wp2_with fail
  refine (placesUIDs_ok N0 g v l top _ H.out hl).mono ?_
  rintro e w1 ⟨v0, rfl, hr, hb⟩
  have HR := Aside0.mk hr
  have HB := Aside0.mk hb
  clear hr hb
  go_wp2_with fail
  go_ret
  exact ⟨_, rfl, HR.out, HB.out⟩
end Go.Proofs.YtmpngedfnheilaaDoor.PP
