-- PRINTED by print.py (a twelfth state) out of the translation. Not trusted: Lean checks it.
import Derived.Test.YtkngjdhggcaonaaDoorPPx0
import Derived.Test.YtkngjdhggcaonaaDoorPPx1
import Derived.Test.YtkngjdhggcaonaaDoorPPx12
namespace Go.Proofs.YtkngjdhggcaonaaDoor.PP
open Go.RowKit Go.Proofs.YtkngjdhggcaonaaDoorW.PrintWords Go.Proofs.YtkngjdhggcaonaaDoorW.PrintLast Go.Proofs.YtkngjdhggcaonaaDoorW.PrintMore
attribute [local go_sem] max2_int min2_int max_two min_two max_three min_three max_four min_four   -- for this text's walks alone
open Go.Proofs.YtkngjdhggcaonaaDoor.My
set_option linter.unusedVariables false
set_option linter.unusedSimpArgs false

/-! ### header_Only: function 26 -/
def header_Only.l0 : Nat → Bool → List ByteArray → List S55 → List UInt8 → Int → Option ByteArray
 | 0, _, _, _, _, _ => none
 | k + 1, nt, l2, bl, acc, i =>
  if i < (bl.length : Int) then (if 0 ≤ i then (if acc.length ≤ 1000000000 then (if (rd_T55 bl i).f1.size ≤ 1000000000 then
   ((header_among.f ((rd_T55 bl i).f0) l2).bind fun t => if t = nt then header_Only.l0 k nt l2 bl acc (wrap64 (i + 1)) else header_Only.l0 k nt l2 bl (acc ++ (rd_T55 bl i).f1.data.toList) (wrap64 (i + 1))) else none) else none) else none)
  else (if acc.length ≤ 1000000000 then some ⟨(acc ++ [13, 10]).toArray⟩ else none)
def header_Only.f (k : Nat) (a0 : ByteArray) (a1 : Bool) (l2 : List ByteArray) : Option ByteArray := (header_blocks.f k a0).bind fun bl => header_Only.l0 k a1 l2 bl [] 0
theorem header_Only.mono_l : ∀ k nt l2 bl acc i, LeO (header_Only.l0 k nt l2 bl acc i) (header_Only.l0 (k + 1) nt l2 bl acc i)
 | 0, _, _, _, _, _ => fun r h => by simp [header_Only.l0] at h
 | k + 1, nt, l2, bl, acc, i => by
  have ih0 := header_Only.mono_l k
  unfold header_Only.l0
  repeat' first
  | (with_reducible exact ih0 _ _ _ _ _)
  | (with_reducible exact LeO.refl _)
  | (with_reducible exact LeO.none _)
  | (with_reducible refine LeO.ite ?_ ?_)
  | (with_reducible refine LeO.bind ?_ (fun _ => ?_))
theorem header_Only.mono (k : Nat) (a0 : ByteArray) (a1 : Bool) (l2 : List ByteArray) : LeO (header_Only.f k a0 a1 l2) (header_Only.f (k + 1) a0 a1 l2) := by
 unfold header_Only.f
 exact LeO.bind (header_blocks.mono _ _) (fun _ => header_Only.mono_l k _ _ _ _ _)
theorem IsB.later {b : Nat} {l : List UInt8} {w w' : World} (h : IsB b l w) (hb : Below w.heap.size w w') : IsB b l w' := by
 have hlt := h.lt'
 have hk := fun {v : Value} (x : w.ownsRowF b 5 1 v (Lib.byteCells l).length (Lib.byteCells l)) => x.kept (row := none) ⟨hb.os, hb.tape, hb.output, hb.size, fun k hk _ => hb.block k hk⟩ (Classical.em _)
 rcases h with ⟨h1, v, h2, h3, h4⟩ | ⟨h1, v, h2, h3, h4⟩
 ·
  exact .inl ⟨h1, v, (hb.block b hlt).trans h2, hk h3, h4⟩
 ·
  exact .inr ⟨h1, v, (hb.block b hlt).trans h2, hk h3, h4⟩
theorem R_kb {wr w1 : World} {b : Nat} {v : Value} {bl : List S55} (h : Kd.R k55 55 wr (b + 1) (fun _ => True) v bl) (hk : Kept 5 b wr w1) : Kd.R k55 55 w1 (b + 1) (fun _ => True) v bl := by
 refine Kd.R_mono (Kd.R_move (Kd.R_bound h) (fun k hk2 => ?_)) (fun _ _ => trivial)
 obtain ⟨_, hge, _, q, hq, cells, hc⟩ := hk2
 rw [hc]
 refine hk.others k _ hc (by simp; omega) ?_
 intro c fz e
 injection e with _ e
 revert hq
 rw [e]
 decide
set_option maxHeartbeats 4000000 in
set_option maxRecDepth 100000 in
theorem header_Only.calls (k : Nat) (a0 : ByteArray) (a1 : Bool) (A2 : Option Addr) (c2 : Nat) (l2 : List ByteArray) (r : ByteArray) (w : World) (hr2 : Kd.C Kd.string w A2 l2.length l2) (hc2 : l2.length ≤ c2) (h : header_Only.f k a0 a1 l2 = some r) :
  Calls Tryd.prog 26 #[.string a0, .bool a1, .slice A2 l2.length c2] w fun e w' => e = .returned (.string r) ∧ Below w.heap.size w w' := by
 have hu55 := Tryd.underlying55
 have HR2 := Aside0.mk hr2
 have HC2 := Aside0.mk hc2
 clear hr2 hc2
 obtain ⟨bl, hbl, H⟩ := Option.bind_eq_some_iff.1 h
 have A := Aside0.mk hbl
 have H' := Aside0.mk H
 clear h hbl H
 go_enter Tryd.func26, Tryd.ntmps26
 go_wp2_with fail
 refine (header_blocks.calls k a0 bl _ A.out).mono ?_
 rintro e w1 ⟨v1, rfl, hr1, hb1⟩
 have hB0 : IsB w.heap.size [] (w.alloc (.cells #[.pointer none, .slice none 0 0] 81)) := Lib.IsBuilderF.of (Lib.fresh_isBuilder _ _ w)
 have HB1 := Aside0.mk (IsB.later hB0 hb1)
 clear hB0
 have HW1 := Aside0.mk (((Below.refl w.heap.size w).alloc (Nat.le_refl _) _).trans (hb1.mono (by simp)))
 obtain ⟨Ao, co, eo⟩ := Kd.R_slice hr1
 subst eo
 have HR1 := Aside0.mk (Kd.R_lower hr1 (by simp : w.heap.size + 1 ≤ _))
 clear hr1 hb1 A
 go_wp2_with fail
 go_loopg [13] k (fun kq v13 wr => ∃ (acc : List UInt8) (i : Int), v13 = .int .i64 i ∧ Aside0 (header_Only.l0 kq a1 l2 bl acc i = some r) ∧ Aside0 (kq ≤ k) ∧ Aside0 (IsB w.heap.size acc wr) ∧ Aside0 (Kd.R k55 55 wr (w.heap.size + 1) (fun _ => True) (.slice Ao bl.length co) bl) ∧ Aside0 (Below w.heap.size w wr))
 case atStart => exact ⟨[], 0, rfl, H', ⟨Nat.le_refl _⟩, HB1, HR1, HW1⟩
 case round =>
  obtain ⟨acc, i, rfl, HA, HK, HB, HR, HW⟩ := hrel
  clear HB1 HR1 HW1 H'
  cases gk with
  | zero => exact absurd HA.out (by simp [header_Only.l0])
  | succ g =>
   have H := HA.out
   clear HA
   simp only [header_Only.l0] at H
   by_cases c1 : i < (bl.length : Int)
   ·
    rw [if_pos c1] at H
    by_cases c2 : 0 ≤ i
    ·
     rw [if_pos c2] at H
     by_cases c3 : acc.length ≤ 1000000000
     ·
      rw [if_pos c3] at H
      by_cases c4 : (rd_T55 bl i).f1.size ≤ 1000000000
      ·
       rw [if_pos c4] at H
       obtain ⟨t, ht, H⟩ := Option.bind_eq_some_iff.1 H
       obtain ⟨ad, e1, hx0, hx1⟩ := at_T55 (Kd.R_reads' HR.out).2.2 i c2 c1
       cases e1
       have HT := Aside0.mk ht
       have c1b : decide (i < (bl.length : Int)) = true := decide_eq_true c1
       have C3 := Aside0.mk c3
       have C4 := Aside0.mk c4
       have H' := Aside0.mk H
       clear ht c3 c4 H
       go_wp2_with fail
       refine (header_among.calls _ _ _ l2 t _ (Kd.C_below HR2.out (HW.out.alloc HW.out.size _)) HC2.out HT.out).mono ?_
       rintro e w2 ⟨rfl, hb2⟩
       have hb3 : Below wr.heap.size wr w2 := ((Below.refl _ wr).alloc (Nat.le_refl _) _).trans (hb2.mono (by simp))
       have hc1 : w2.cell? ⟨wr.heap.size, 1, none⟩ = some (.string (rd_T55 bl i).f1) := (hb2.cell (p := ⟨wr.heap.size, 1, none⟩) (by simp)).trans (by rw [cell_of_row _ _ 1 _ 55 (0, 0) (heap_alloc_new wr _)]; rfl)
       have HBn := Aside0.mk (IsB.later HB.out hb3)
       have HRn := Aside0.mk (Kd.R_below HR.out hb3)
       have HWn := Aside0.mk (HW.out.trans (hb3.mono HW.out.size))
       clear HB HR HW hb2 hb3 hx0 hx1
       by_cases ct : t = a1
       ·
        subst ct
        have H := H'.out
        rw [if_pos rfl] at H
        have H'' := Aside0.mk H
        have hne : (!(t == t)) = false := by simp
        clear H H'
        go_wp2_with fail
        go_roundg g
        case measure => omega
        case rel => exact ⟨acc, wrap64 (i + 1), rfl, H'', ⟨by have := HK.out; omega⟩, HBn, HRn, HWn⟩
       ·
        have H := H'.out
        rw [if_neg ct] at H
        have H'' := Aside0.mk H
        have hne : (!(t == a1)) = true := by simpa using ct
        clear H H'
        go_wp2_with fail
        refine (writeString_ok w.heap.size acc _ _ HBn.out (by have := C3.out; omega) (by have := C4.out; omega)).mono ?_
        rintro e w3 ⟨rfl, hB3, hK3⟩
        have HB3 := Aside0.mk hB3
        have HW3 := Aside0.mk (HWn.out.trans hK3.below)
        have HR3 := Aside0.mk (R_kb HRn.out hK3)
        clear hB3 hK3
        go_wp2_with fail
        go_roundg g
        case measure => omega
        case rel => exact ⟨_, wrap64 (i + 1), rfl, H'', ⟨by have := HK.out; omega⟩, HB3, HR3, HW3⟩
      ·
       rw [if_neg c4] at H; cases H
     ·
      rw [if_neg c3] at H; cases H
    ·
     rw [if_neg c2] at H; cases H
   ·
    rw [if_neg c1] at H
    have c1b : decide (i < (bl.length : Int)) = false := decide_eq_false c1
    by_cases c3 : acc.length ≤ 1000000000
    ·
     rw [if_pos c3] at H
     have H' := Aside0.mk (Option.some.inj H)
     have C3 := Aside0.mk c3
     clear H c3
     go_wp2_with fail
     refine (writeString_ok w.heap.size acc ⟨#[13, 10]⟩ _ HB.out (by have := C3.out; omega) (by decide)).mono ?_
     rintro e w5 ⟨rfl, hB5, hK5⟩
     have HB5 := Aside0.mk hB5
     have HW5 := Aside0.mk (HW.out.trans hK5.below)
     clear hB5 hK5
     go_wp2_with fail
     refine (bString_any w.heap.size _ _ HB5.out HW5.out.size).mono ?_
     rintro e w6 ⟨rfl, _, hb6, _⟩
     have HW6 := Aside0.mk (HW5.out.trans hb6)
     clear hb6
     go_wp2_with fail
     go_ret
     exact ⟨by rw [← H'.out]; rfl, HW6.out⟩
    ·
     rw [if_neg c3] at H; cases H

end Go.Proofs.YtkngjdhggcaonaaDoor.PP
