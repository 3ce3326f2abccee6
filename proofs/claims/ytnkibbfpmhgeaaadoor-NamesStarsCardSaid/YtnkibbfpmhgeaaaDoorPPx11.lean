-- PRINTED by print.py (a twelfth state) out of the translation. Not trusted: Lean checks it.
import Derived.Test.YtnkibbfpmhgeaaaDoorPPx0
import Derived.Test.YtnkibbfpmhgeaaaDoorPPx4
import Derived.Test.YtnkibbfpmhgeaaaDoorPPx7
namespace Go.Proofs.YtnkibbfpmhgeaaaDoor.PP
open Go.RowKit Go.Proofs.YtnkibbfpmhgeaaaDoorW.PrintWords Go.Proofs.YtnkibbfpmhgeaaaDoorW.PrintLast Go.Proofs.YtnkibbfpmhgeaaaDoorW.PrintMore
attribute [local go_sem] max2_int min2_int max_two min_two max_three min_three max_four min_four   -- for this text's walks alone
open Go.Proofs.YtnkibbfpmhgeaaaDoor.My
set_option linter.unusedVariables false
set_option linter.unusedSimpArgs false

/-! ### haversacklaw07_NamesStars: function 7 -/
mutual
def haversacklaw07_NamesStars.j0 : Nat → ByteArray → ByteArray → ByteArray → ByteArray → Bool → Option (Bool)
 | 0, _, _, _, _, _ => none
 | k + 1, x0, x1, x2, x3, x29 => if x29 = true then ((haversacklaw07_alive.f k).bind fun t162 => (some t162)) else (haversacklaw07_NamesStars.l0 k x0 x1 x2 x3 false false (x2.size : Int) 0)
def haversacklaw07_NamesStars.l0 : Nat → ByteArray → ByteArray → ByteArray → ByteArray → Bool → Bool → Int → Int → Option (Bool)
 | 0, _, _, _, _, _, _, _, _ => none
 | k + 1, x0, x1, x2, x3, x9, x10, x32, x33 => if x33 < x32 then (if x9 = true then (if x10 = true then (haversacklaw07_NamesStars.l0 k x0 x1 x2 x3 true true x32 (wrap64 (x33 + 1))) else (if 0 ≤ x33 then (if x33 < (x2.size : Int) then (haversacklaw07_NamesStars.l0 k x0 x1 x2 x3 true ((bt x2 x33) == 47) x32 (wrap64 (x33 + 1))) else (none)) else (none))) else (if 0 ≤ x33 then (if x33 < (x2.size : Int) then (if (bt x2 x33) = 42 then (if x10 = true then (haversacklaw07_NamesStars.l0 k x0 x1 x2 x3 true true x32 (wrap64 (x33 + 1))) else (haversacklaw07_NamesStars.l0 k x0 x1 x2 x3 true ((bt x2 x33) == 47) x32 (wrap64 (x33 + 1)))) else (if x10 = true then (haversacklaw07_NamesStars.l0 k x0 x1 x2 x3 ((bt x2 x33) == 37) true x32 (wrap64 (x33 + 1))) else (haversacklaw07_NamesStars.l0 k x0 x1 x2 x3 ((bt x2 x33) == 37) ((bt x2 x33) == 47) x32 (wrap64 (x33 + 1))))) else (none)) else (none))) else (if x9 = true then (haversacklaw07_NamesStars.j2 k x0 x1 x2 x3 x10 false) else ((names_Match.f k x2 x3).bind fun t163 => (haversacklaw07_NamesStars.j2 k x0 x1 x2 x3 x10 (t163 != (x2.toList == x3.toList)))))
def haversacklaw07_NamesStars.j2 : Nat → ByteArray → ByteArray → ByteArray → ByteArray → Bool → Bool → Option (Bool)
 | 0, _, _, _, _, _, _ => none
 | k + 1, x0, x1, x2, x3, x10, x67 => if x67 = true then (some false) else ((names_Match.f k x0 x2).bind fun t164 => (if t164 = true then ((names_Match.f k x1 x3).bind fun t165 => (if t165 = true then (if x0.size + x1.size ≤ 9223372036854775807 then (if x2.size + x3.size ≤ 9223372036854775807 then ((names_Match.f k (x0 ++ x1) (x2 ++ x3)).bind fun t166 => (haversacklaw07_NamesStars.j3 k x0 x1 x2 x10 (!t166))) else (none)) else (none)) else (haversacklaw07_NamesStars.j3 k x0 x1 x2 x10 false))) else (haversacklaw07_NamesStars.j3 k x0 x1 x2 x10 false)))
def haversacklaw07_NamesStars.j3 : Nat → ByteArray → ByteArray → ByteArray → Bool → Bool → Option (Bool)
 | 0, _, _, _, _, _ => none
 | k + 1, x0, x1, x2, x10, x85 => if x85 = true then (some false) else ((names_Match.f k (⟨#[42]⟩ : ByteArray) x2).bind fun t167 => (if t167 = true then ((names_Match.f k (⟨#[37]⟩ : ByteArray) x2).bind fun t168 => (if (t168 != (!x10)) = true then (haversacklaw07_NamesStars.j4 k x0 x1 x2 true) else (if x0.size + 1 ≤ 9223372036854775807 then ((names_Match.f k (x0 ++ (⟨#[42]⟩ : ByteArray)) x2).bind fun t169 => (if t169 = true then (haversacklaw07_NamesStars.j4 k x0 x1 x2 false) else ((names_Match.f k x0 x2).bind fun t170 => (haversacklaw07_NamesStars.j4 k x0 x1 x2 t170)))) else (none)))) else (haversacklaw07_NamesStars.j4 k x0 x1 x2 true)))
def haversacklaw07_NamesStars.j4 : Nat → ByteArray → ByteArray → ByteArray → Bool → Option (Bool)
 | 0, _, _, _, _ => none
 | k + 1, x0, x1, x2, x107 => if x107 = true then (some false) else (if x0.size + 2 ≤ 9223372036854775807 then (if x0.size + 2 + x1.size ≤ 9223372036854775807 then ((names_Match.f k ((x0 ++ (⟨#[42, 42]⟩ : ByteArray)) ++ x1) x2).bind fun t171 => (if x0.size + 1 ≤ 9223372036854775807 then (if x0.size + 1 + x1.size ≤ 9223372036854775807 then ((names_Match.f k ((x0 ++ (⟨#[42]⟩ : ByteArray)) ++ x1) x2).bind fun t172 => (if (t171 == t172) = true then ((names_Match.f k ((x0 ++ (⟨#[37, 42]⟩ : ByteArray)) ++ x1) x2).bind fun t173 => ((names_Match.f k ((x0 ++ (⟨#[42]⟩ : ByteArray)) ++ x1) x2).bind fun t174 => (if (t173 == t174) = true then ((names_Match.f k ((x0 ++ (⟨#[37, 37]⟩ : ByteArray)) ++ x1) x2).bind fun t175 => ((names_Match.f k ((x0 ++ (⟨#[37]⟩ : ByteArray)) ++ x1) x2).bind fun t176 => (if (t175 == t176) = true then ((haversacklaw07_alive.f k).bind fun t177 => (some t177)) else (some false)))) else (some false)))) else (some false))) else (none)) else (none))) else (none)) else (none))
end
def haversacklaw07_NamesStars.f (k : Nat) (a0 : ByteArray) (a1 : ByteArray) (a2 : ByteArray) (a3 : ByteArray) : Option (Bool) := if (a0.size : Int) > 300 then (haversacklaw07_NamesStars.j0 k a0 a1 a2 a3 true) else (if (a1.size : Int) > 300 then (haversacklaw07_NamesStars.j0 k a0 a1 a2 a3 true) else (if (a2.size : Int) > 300 then (haversacklaw07_NamesStars.j0 k a0 a1 a2 a3 true) else (haversacklaw07_NamesStars.j0 k a0 a1 a2 a3 (decide ((a3.size : Int) > 300)))))
theorem haversacklaw07_NamesStars.mono_l : ∀ k, (∀ y0 y1 y2 y3 y4, LeO (haversacklaw07_NamesStars.j0 k y0 y1 y2 y3 y4) (haversacklaw07_NamesStars.j0 (k + 1) y0 y1 y2 y3 y4)) ∧ (∀ y0 y1 y2 y3 y4 y5 y6 y7, LeO (haversacklaw07_NamesStars.l0 k y0 y1 y2 y3 y4 y5 y6 y7) (haversacklaw07_NamesStars.l0 (k + 1) y0 y1 y2 y3 y4 y5 y6 y7)) ∧ (∀ y0 y1 y2 y3 y4 y5, LeO (haversacklaw07_NamesStars.j2 k y0 y1 y2 y3 y4 y5) (haversacklaw07_NamesStars.j2 (k + 1) y0 y1 y2 y3 y4 y5)) ∧ (∀ y0 y1 y2 y3 y4, LeO (haversacklaw07_NamesStars.j3 k y0 y1 y2 y3 y4) (haversacklaw07_NamesStars.j3 (k + 1) y0 y1 y2 y3 y4)) ∧ (∀ y0 y1 y2 y3, LeO (haversacklaw07_NamesStars.j4 k y0 y1 y2 y3) (haversacklaw07_NamesStars.j4 (k + 1) y0 y1 y2 y3))
 | 0 => ⟨fun _ _ _ _ _ r h => by simp [haversacklaw07_NamesStars.j0] at h, fun _ _ _ _ _ _ _ _ r h => by simp [haversacklaw07_NamesStars.l0] at h, fun _ _ _ _ _ _ r h => by simp [haversacklaw07_NamesStars.j2] at h, fun _ _ _ _ _ r h => by simp [haversacklaw07_NamesStars.j3] at h, fun _ _ _ _ r h => by simp [haversacklaw07_NamesStars.j4] at h⟩
 | k + 1 => by
  obtain ⟨ih0, ih1, ih2, ih3, ih4⟩ := haversacklaw07_NamesStars.mono_l k
  refine ⟨?_, ?_, ?_, ?_, ?_⟩
  ·
   intro y0 y1 y2 y3 y4
   unfold haversacklaw07_NamesStars.j0
   repeat' first
   | (with_reducible exact ih0 _ _ _ _ _)
   | (with_reducible exact ih1 _ _ _ _ _ _ _ _)
   | (with_reducible exact ih2 _ _ _ _ _ _)
   | (with_reducible exact ih3 _ _ _ _ _)
   | (with_reducible exact ih4 _ _ _ _)
   | (with_reducible exact haversacklaw07_alive.mono _)
   | (with_reducible exact names_Match.mono _ _ _)
   | (with_reducible exact LeO.refl _)
   | (with_reducible exact LeO.none _)
   | (with_reducible refine LeO.ite ?_ ?_)
   | (with_reducible refine LeO.bind ?_ (fun _ => ?_))
   | exact ih0 _ _ _ _ _
   | exact ih1 _ _ _ _ _ _ _ _
   | exact ih2 _ _ _ _ _ _
   | exact ih3 _ _ _ _ _
   | exact ih4 _ _ _ _
   | exact haversacklaw07_alive.mono _
   | exact names_Match.mono _ _ _
   | exact LeO.none _
   | refine LeO.ite ?_ ?_
   | refine LeO.bind ?_ (fun _ => ?_)
  ·
   intro y0 y1 y2 y3 y4 y5 y6 y7
   unfold haversacklaw07_NamesStars.l0
   repeat' first
   | (with_reducible exact ih0 _ _ _ _ _)
   | (with_reducible exact ih1 _ _ _ _ _ _ _ _)
   | (with_reducible exact ih2 _ _ _ _ _ _)
   | (with_reducible exact ih3 _ _ _ _ _)
   | (with_reducible exact ih4 _ _ _ _)
   | (with_reducible exact haversacklaw07_alive.mono _)
   | (with_reducible exact names_Match.mono _ _ _)
   | (with_reducible exact LeO.refl _)
   | (with_reducible exact LeO.none _)
   | (with_reducible refine LeO.ite ?_ ?_)
   | (with_reducible refine LeO.bind ?_ (fun _ => ?_))
   | exact ih0 _ _ _ _ _
   | exact ih1 _ _ _ _ _ _ _ _
   | exact ih2 _ _ _ _ _ _
   | exact ih3 _ _ _ _ _
   | exact ih4 _ _ _ _
   | exact haversacklaw07_alive.mono _
   | exact names_Match.mono _ _ _
   | exact LeO.none _
   | refine LeO.ite ?_ ?_
   | refine LeO.bind ?_ (fun _ => ?_)
  ·
   intro y0 y1 y2 y3 y4 y5
   unfold haversacklaw07_NamesStars.j2
   repeat' first
   | (with_reducible exact ih0 _ _ _ _ _)
   | (with_reducible exact ih1 _ _ _ _ _ _ _ _)
   | (with_reducible exact ih2 _ _ _ _ _ _)
   | (with_reducible exact ih3 _ _ _ _ _)
   | (with_reducible exact ih4 _ _ _ _)
   | (with_reducible exact haversacklaw07_alive.mono _)
   | (with_reducible exact names_Match.mono _ _ _)
   | (with_reducible exact LeO.refl _)
   | (with_reducible exact LeO.none _)
   | (with_reducible refine LeO.ite ?_ ?_)
   | (with_reducible refine LeO.bind ?_ (fun _ => ?_))
   | exact ih0 _ _ _ _ _
   | exact ih1 _ _ _ _ _ _ _ _
   | exact ih2 _ _ _ _ _ _
   | exact ih3 _ _ _ _ _
   | exact ih4 _ _ _ _
   | exact haversacklaw07_alive.mono _
   | exact names_Match.mono _ _ _
   | exact LeO.none _
   | refine LeO.ite ?_ ?_
   | refine LeO.bind ?_ (fun _ => ?_)
  ·
   intro y0 y1 y2 y3 y4
   unfold haversacklaw07_NamesStars.j3
   repeat' first
   | (with_reducible exact ih0 _ _ _ _ _)
   | (with_reducible exact ih1 _ _ _ _ _ _ _ _)
   | (with_reducible exact ih2 _ _ _ _ _ _)
   | (with_reducible exact ih3 _ _ _ _ _)
   | (with_reducible exact ih4 _ _ _ _)
   | (with_reducible exact haversacklaw07_alive.mono _)
   | (with_reducible exact names_Match.mono _ _ _)
   | (with_reducible exact LeO.refl _)
   | (with_reducible exact LeO.none _)
   | (with_reducible refine LeO.ite ?_ ?_)
   | (with_reducible refine LeO.bind ?_ (fun _ => ?_))
   | exact ih0 _ _ _ _ _
   | exact ih1 _ _ _ _ _ _ _ _
   | exact ih2 _ _ _ _ _ _
   | exact ih3 _ _ _ _ _
   | exact ih4 _ _ _ _
   | exact haversacklaw07_alive.mono _
   | exact names_Match.mono _ _ _
   | exact LeO.none _
   | refine LeO.ite ?_ ?_
   | refine LeO.bind ?_ (fun _ => ?_)
  ·
   intro y0 y1 y2 y3
   unfold haversacklaw07_NamesStars.j4
   repeat' first
   | (with_reducible exact ih0 _ _ _ _ _)
   | (with_reducible exact ih1 _ _ _ _ _ _ _ _)
   | (with_reducible exact ih2 _ _ _ _ _ _)
   | (with_reducible exact ih3 _ _ _ _ _)
   | (with_reducible exact ih4 _ _ _ _)
   | (with_reducible exact haversacklaw07_alive.mono _)
   | (with_reducible exact names_Match.mono _ _ _)
   | (with_reducible exact LeO.refl _)
   | (with_reducible exact LeO.none _)
   | (with_reducible refine LeO.ite ?_ ?_)
   | (with_reducible refine LeO.bind ?_ (fun _ => ?_))
   | exact ih0 _ _ _ _ _
   | exact ih1 _ _ _ _ _ _ _ _
   | exact ih2 _ _ _ _ _ _
   | exact ih3 _ _ _ _ _
   | exact ih4 _ _ _ _
   | exact haversacklaw07_alive.mono _
   | exact names_Match.mono _ _ _
   | exact LeO.none _
   | refine LeO.ite ?_ ?_
   | refine LeO.bind ?_ (fun _ => ?_)
theorem haversacklaw07_NamesStars.mono : ∀ a0 a1 a2 a3 k, LeO (haversacklaw07_NamesStars.f k a0 a1 a2 a3) (haversacklaw07_NamesStars.f (k + 1) a0 a1 a2 a3) := by
 intro a0 a1 a2 a3 k
 obtain ⟨ih0, ih1, ih2, ih3, ih4⟩ := haversacklaw07_NamesStars.mono_l k
 unfold haversacklaw07_NamesStars.f
 repeat' first
   | (with_reducible exact ih0 _ _ _ _ _)
   | (with_reducible exact ih1 _ _ _ _ _ _ _ _)
   | (with_reducible exact ih2 _ _ _ _ _ _)
   | (with_reducible exact ih3 _ _ _ _ _)
   | (with_reducible exact ih4 _ _ _ _)
   | (with_reducible exact haversacklaw07_alive.mono _)
   | (with_reducible exact names_Match.mono _ _ _)
   | (with_reducible exact LeO.refl _)
   | (with_reducible exact LeO.none _)
   | (with_reducible refine LeO.ite ?_ ?_)
   | (with_reducible refine LeO.bind ?_ (fun _ => ?_))
   | exact ih0 _ _ _ _ _
   | exact ih1 _ _ _ _ _ _ _ _
   | exact ih2 _ _ _ _ _ _
   | exact ih3 _ _ _ _ _
   | exact ih4 _ _ _ _
   | exact haversacklaw07_alive.mono _
   | exact names_Match.mono _ _ _
   | exact LeO.none _
   | refine LeO.ite ?_ ?_
   | refine LeO.bind ?_ (fun _ => ?_)
set_option maxHeartbeats 8000000 in
set_option maxRecDepth 100000 in
theorem haversacklaw07_NamesStars.calls (k : Nat) (a0 : ByteArray) (a1 : ByteArray) (a2 : ByteArray) (a3 : ByteArray) (r : Bool) (w : World) (h : haversacklaw07_NamesStars.f k a0 a1 a2 a3 = some r) (hT : Tabs w) :
  Calls Tryd.prog 7 #[.string a0, .string a1, .string a2, .string a3] w fun e w' => e = .returned (.bool r) ∧ Below w.heap.size w w' := by
 have HT := Aside0.mk hT
 clear hT
 have HB := Aside0.mk (Below.refl w.heap.size w)
 have H : (if (a0.size : Int) > 300 then (haversacklaw07_NamesStars.j0 k a0 a1 a2 a3 true) else (if (a1.size : Int) > 300 then (haversacklaw07_NamesStars.j0 k a0 a1 a2 a3 true) else (if (a2.size : Int) > 300 then (haversacklaw07_NamesStars.j0 k a0 a1 a2 a3 true) else (haversacklaw07_NamesStars.j0 k a0 a1 a2 a3 (decide ((a3.size : Int) > 300)))))) = some r := h
 clear h
 have HC5 := Aside0.mk H
 clear H
 go_enter Tryd.func7, Tryd.ntmps7
 go_upto_region 1 with (fail)
 go_cut [29] (fun v29 wc => ∃ (kq : Nat) (x29_4 : Bool), v29 = .bool x29_4 ∧ Aside0 (haversacklaw07_NamesStars.j0 kq a0 a1 a2 a3 x29_4 = some r) ∧ Aside0 (kq ≤ k) ∧ Aside0 (Below w.heap.size w wc))
 case first =>
  have H := HC5.out
  clear HC5
  by_cases c6 : (a0.size : Int) > 300
  ·
   rw [if_pos c6] at H
   have c6b0 : decide (300 < (a0.size : Int)) = true := decide_eq_true c6
   have c6b1 : decide (300 < a0.size) = true := decide_eq_true (by omega)
   clear c6
   (first | rw [c6b0] | (simp only [i64_w, i32_w]; rw [c6b0]) | skip)
   have H' := Aside0.mk H
   clear H
   go_wp2
   go_meet
   case rel => exact ⟨_, (true), (by first | with_reducible rfl | (simp only [pps, Nat.reduceAdd]; done) | rfl | (simp; done) | (simp [*]; done)), H', ⟨by first | omega | exact Nat.le_refl _⟩, ⟨by repeat (first | (with_reducible first | exact HB.out | apply below_alloc | apply pw_below_drewN | apply below_drew1) | exact HB.out)⟩⟩
  ·
   rw [if_neg c6] at H
   have c6b0 : decide (300 < (a0.size : Int)) = false := decide_eq_false c6
   have c6b1 : decide (300 < a0.size) = false := decide_eq_false (by omega)
   clear c6
   (first | rw [c6b0] | (simp only [i64_w, i32_w]; rw [c6b0]) | skip)
   by_cases c7 : (a1.size : Int) > 300
   ·
    rw [if_pos c7] at H
    have c7b0 : decide (300 < (a1.size : Int)) = true := decide_eq_true c7
    have c7b1 : decide (300 < a1.size) = true := decide_eq_true (by omega)
    clear c7
    have H' := Aside0.mk H
    clear H
    go_wp2
    go_meet
    case rel => exact ⟨_, (true), (by first | with_reducible rfl | (simp only [pps, Nat.reduceAdd]; done) | rfl | (simp; done) | (simp [*]; done)), H', ⟨by first | omega | exact Nat.le_refl _⟩, ⟨by repeat (first | (with_reducible first | exact HB.out | apply below_alloc | apply pw_below_drewN | apply below_drew1) | exact HB.out)⟩⟩
   ·
    rw [if_neg c7] at H
    have c7b0 : decide (300 < (a1.size : Int)) = false := decide_eq_false c7
    have c7b1 : decide (300 < a1.size) = false := decide_eq_false (by omega)
    clear c7
    by_cases c8 : (a2.size : Int) > 300
    ·
     rw [if_pos c8] at H
     have c8b0 : decide (300 < (a2.size : Int)) = true := decide_eq_true c8
     have c8b1 : decide (300 < a2.size) = true := decide_eq_true (by omega)
     clear c8
     have H' := Aside0.mk H
     clear H
     go_wp2
     go_meet
     case rel => exact ⟨_, (true), (by first | with_reducible rfl | (simp only [pps, Nat.reduceAdd]; done) | rfl | (simp; done) | (simp [*]; done)), H', ⟨by first | omega | exact Nat.le_refl _⟩, ⟨by repeat (first | (with_reducible first | exact HB.out | apply below_alloc | apply pw_below_drewN | apply below_drew1) | exact HB.out)⟩⟩
    ·
     rw [if_neg c8] at H
     have c8b0 : decide (300 < (a2.size : Int)) = false := decide_eq_false c8
     have c8b1 : decide (300 < a2.size) = false := decide_eq_false (by omega)
     clear c8
     have H' := Aside0.mk H
     clear H
     go_wp2
     go_meet
     case rel => exact ⟨_, (decide ((a3.size : Int) > 300)), (by first | with_reducible rfl | (simp only [pps, Nat.reduceAdd]; done) | rfl | (simp; done) | (simp [*]; done)), H', ⟨by first | omega | exact Nat.le_refl _⟩, ⟨by repeat (first | (with_reducible first | exact HB.out | apply below_alloc | apply pw_below_drewN | apply below_drew1) | exact HB.out)⟩⟩
 case rest =>
  clear HC5
  try clear p2
  try clear c6
  try clear c6b0
  try clear c6b1
  try clear c7
  try clear c7b0
  try clear c7b1
  try clear c8
  try clear c8b0
  try clear c8b1
  obtain ⟨kq, x29_4, rfl, HA, HJ4, HB⟩ := hcut
  cases kq with
  | zero => exact absurd HA.out (by simp [haversacklaw07_NamesStars.j0])
  | succ kj4 =>
   have H := HA.out
   clear HA
   simp only [haversacklaw07_NamesStars.j0] at H
   by_cases c9 : x29_4 = true
   ·
    subst c9
    have H1 : ((haversacklaw07_alive.f kj4).bind fun t162 => (some t162)) = some r := by rw [if_pos rfl] at H; exact H
    clear H
    have H := H1
    clear H1
    replace H := Option.bind_eq_some_iff.mp H
    obtain ⟨t162, A100, H⟩ := H
    replace H : (some t162) = some r := H
    have A10 := Aside0.mk A100
    clear A100
    obtain rfl := Option.some.inj H
    go_wp2_with (first | ((with_reducible refine gate_callee (f := 10) rfl ?_); refine goesL_ (some 30) rfl rfl Tryd.func10 (by kernel_rfl) rfl #[] rfl (by (try simp only [List.map_toArray, List.map_cons, List.map_nil]); first | done | rfl | (simp only [List.length_drop, List.length_take]; rfl)) ?_; (with_reducible refine (haversacklaw07_alive.calls kj4  t162 _ A10.out (Tabs.below HT.out (by repeat (first | (with_reducible first | exact HB.out | apply below_alloc | apply pw_below_drewN | apply below_drew1) | exact HB.out)))).mono ?_); rintro e w11 ⟨rfl, hb⟩; refine ⟨_, rfl, ?_⟩; have n0_ := Aside0.mk (below_step (by repeat (first | (with_reducible first | exact HB.out | apply below_alloc | apply pw_below_drewN | apply below_drew1) | exact HB.out)) hb); clear HB; have HB := n0_; clear n0_; (try clear hb); (try clear hb2); (try clear hk); (try clear hi)))
    go_ret
    exact ⟨by first | rfl | (simp [errW_none, errW_some] <;> rfl) | (simp [*, errW_none, errW_some] <;> rfl), by repeat (first | (with_reducible first | exact HB.out | apply below_alloc | apply pw_below_drewN | apply below_drew1) | exact HB.out)⟩
   ·
    replace c9 := Bool.eq_false_iff.mpr c9
    subst c9
    have H1 : (haversacklaw07_NamesStars.l0 kj4 a0 a1 a2 a3 false false (a2.size : Int) 0) = some r := by rw [if_neg (show ¬ (false = true) by decide)] at H; exact H
    clear H
    have H := H1
    clear H1
    have H' := Aside0.mk H
    clear H
    go_wp2
    go_loopg [9, 10, 33] kj4 (fun kq v9 v10 v33 w' => ∃ (x9_2 : Bool) (x10_2 : Bool) (x33_2 : Int), v9 = .bool x9_2 ∧ v10 = .bool x10_2 ∧ v33 = .int .i64 x33_2 ∧ Aside0 (haversacklaw07_NamesStars.l0 kq a0 a1 a2 a3 x9_2 x10_2 (a2.size : Int) x33_2 = some r) ∧ Aside0 (kq ≤ kj4) ∧ Aside0 (Below w.heap.size w w'))
    case atStart => exact ⟨(false), (false), (0), (by first | with_reducible rfl | (simp only [pps, Nat.reduceAdd]; done) | rfl | (simp; done) | (simp [*]; done)), (by first | with_reducible rfl | (simp only [pps, Nat.reduceAdd]; done) | rfl | (simp; done) | (simp [*]; done)), (by first | with_reducible rfl | (simp only [pps, Nat.reduceAdd]; done) | rfl | (simp; done) | (simp [*]; done)), H', ⟨Nat.le_refl _⟩, ⟨by repeat (first | (with_reducible first | exact HB.out | apply below_alloc | apply pw_below_drewN | apply below_drew1) | exact HB.out)⟩⟩
    case round =>
     clear H'
     try clear c1
     try clear p2
     try clear c6
     try clear c6b0
     try clear c6b1
     try clear c7
     try clear c7b0
     try clear c7b1
     try clear c8
     try clear c8b0
     try clear c8b1
     try clear c9
     try clear c10
     try clear p2
     obtain ⟨x9_2, x10_2, x33_2, rfl, rfl, rfl, HA, HK2, HB⟩ := hrel
     cases gk with
     | zero => exact absurd HA.out (by simp [haversacklaw07_NamesStars.l0])
     | succ k2 =>
      have H := HA.out
      clear HA
      simp only [haversacklaw07_NamesStars.l0] at H
      by_cases c12 : x33_2 < (a2.size : Int)
      ·
       rw [if_pos c12] at H
       have c12b0 : decide (x33_2 < (a2.size : Int)) = true := decide_eq_true c12
       clear c12
       by_cases c13 : x9_2 = true
       ·
        subst c13
        have H1 : (if x10_2 = true then (haversacklaw07_NamesStars.l0 k2 a0 a1 a2 a3 true true (a2.size : Int) (wrap64 (x33_2 + 1))) else (if 0 ≤ x33_2 then (if x33_2 < (a2.size : Int) then (haversacklaw07_NamesStars.l0 k2 a0 a1 a2 a3 true ((bt a2 x33_2) == 47) (a2.size : Int) (wrap64 (x33_2 + 1))) else (none)) else (none))) = some r := by rw [if_pos rfl] at H; exact H
        clear H
        have H := H1
        clear H1
        by_cases c14 : x10_2 = true
        ·
         subst c14
         have H1 : (haversacklaw07_NamesStars.l0 k2 a0 a1 a2 a3 true true (a2.size : Int) (wrap64 (x33_2 + 1))) = some r := by rw [if_pos rfl] at H; exact H
         clear H
         have H := H1
         clear H1
         have H' := Aside0.mk H
         clear H
         go_wp2
         go_roundg k2
         case measure => have := HJ4.out; have := HK2.out; omega
         case rel => exact ⟨(true), (true), (wrap64 (x33_2 + 1)), (by first | with_reducible rfl | (simp only [pps, Nat.reduceAdd]; done) | rfl | (simp; done) | (simp [*]; done)), (by first | with_reducible rfl | (simp only [pps, Nat.reduceAdd]; done) | rfl | (simp; done) | (simp [*]; done)), (by first | with_reducible rfl | (simp only [pps, Nat.reduceAdd]; done) | rfl | (simp; done) | (simp [*]; done)), H', ⟨by have := HJ4.out; have := HK2.out; omega⟩, ⟨by repeat (first | (with_reducible first | exact HB.out | apply below_alloc | apply pw_below_drewN | apply below_drew1) | exact HB.out)⟩⟩
        ·
         replace c14 := Bool.eq_false_iff.mpr c14
         subst c14
         have H1 : (if 0 ≤ x33_2 then (if x33_2 < (a2.size : Int) then (haversacklaw07_NamesStars.l0 k2 a0 a1 a2 a3 true ((bt a2 x33_2) == 47) (a2.size : Int) (wrap64 (x33_2 + 1))) else (none)) else (none)) = some r := by rw [if_neg (show ¬ (false = true) by decide)] at H; exact H
         clear H
         have H := H1
         clear H1
         by_cases c15 : 0 ≤ x33_2
         ·
          rw [if_pos c15] at H
          have c15b0 : decide (0 ≤ x33_2) = true := decide_eq_true c15
          clear c15
          by_cases c16 : x33_2 < (a2.size : Int)
          ·
           rw [if_pos c16] at H
           have c16b0 : decide (x33_2 < (a2.size : Int)) = true := decide_eq_true c16
           clear c16
           have H' := Aside0.mk H
           clear H
           have p17 : 0 ≤ (x33_2 : Int) := of_decide_eq_true (by first | (with_reducible assumption) | assumption)
           have q17 : x33_2 < (a2.size : Int) := of_decide_eq_true (by first | (with_reducible assumption) | assumption)
           have hx17 := bt_at a2 x33_2
           replace p17 := eq_true p17
           replace q17 := eq_true q17
           go_wp2
           go_roundg k2
           case measure => have := HJ4.out; have := HK2.out; omega
           case rel => exact ⟨(true), (((bt a2 x33_2) == 47)), (wrap64 (x33_2 + 1)), (by first | with_reducible rfl | (simp only [pps, Nat.reduceAdd]; done) | rfl | (simp; done) | (simp [*]; done)), (by first | with_reducible rfl | (simp only [pps, Nat.reduceAdd]; done) | rfl | (simp; done) | (simp [*]; done)), (by first | with_reducible rfl | (simp only [pps, Nat.reduceAdd]; done) | rfl | (simp; done) | (simp [*]; done)), H', ⟨by have := HJ4.out; have := HK2.out; omega⟩, ⟨by repeat (first | (with_reducible first | exact HB.out | apply below_alloc | apply pw_below_drewN | apply below_drew1) | exact HB.out)⟩⟩
          ·
           rw [if_neg c16] at H
           exact absurd H (by simp)
         ·
          rw [if_neg c15] at H
          exact absurd H (by simp)
       ·
        replace c13 := Bool.eq_false_iff.mpr c13
        subst c13
        have H1 : (if 0 ≤ x33_2 then (if x33_2 < (a2.size : Int) then (if (bt a2 x33_2) = 42 then (if x10_2 = true then (haversacklaw07_NamesStars.l0 k2 a0 a1 a2 a3 true true (a2.size : Int) (wrap64 (x33_2 + 1))) else (haversacklaw07_NamesStars.l0 k2 a0 a1 a2 a3 true ((bt a2 x33_2) == 47) (a2.size : Int) (wrap64 (x33_2 + 1)))) else (if x10_2 = true then (haversacklaw07_NamesStars.l0 k2 a0 a1 a2 a3 ((bt a2 x33_2) == 37) true (a2.size : Int) (wrap64 (x33_2 + 1))) else (haversacklaw07_NamesStars.l0 k2 a0 a1 a2 a3 ((bt a2 x33_2) == 37) ((bt a2 x33_2) == 47) (a2.size : Int) (wrap64 (x33_2 + 1))))) else (none)) else (none)) = some r := by rw [if_neg (show ¬ (false = true) by decide)] at H; exact H
        clear H
        have H := H1
        clear H1
        by_cases c18 : 0 ≤ x33_2
        ·
         rw [if_pos c18] at H
         have c18b0 : decide (0 ≤ x33_2) = true := decide_eq_true c18
         clear c18
         by_cases c19 : x33_2 < (a2.size : Int)
         ·
          rw [if_pos c19] at H
          have c19b0 : decide (x33_2 < (a2.size : Int)) = true := decide_eq_true c19
          clear c19
          by_cases c21 : (bt a2 x33_2) = 42
          ·
           rw [if_pos c21] at H
           have c21b0 : ((bt a2 x33_2) == 42) = true := beq_iff_eq.mpr c21
           have c21b1 : ((bt a2 x33_2) != 42) = false := bne_eq_false_iff_eq.mpr c21
           clear c21
           by_cases c22 : x10_2 = true
           ·
            subst c22
            have H1 : (haversacklaw07_NamesStars.l0 k2 a0 a1 a2 a3 true true (a2.size : Int) (wrap64 (x33_2 + 1))) = some r := by rw [if_pos rfl] at H; exact H
            clear H
            have H := H1
            clear H1
            have H' := Aside0.mk H
            clear H
            have p20 : 0 ≤ (x33_2 : Int) := of_decide_eq_true (by first | (with_reducible assumption) | assumption)
            have q20 : x33_2 < (a2.size : Int) := of_decide_eq_true (by first | (with_reducible assumption) | assumption)
            have hx20 := bt_at a2 x33_2
            replace p20 := eq_true p20
            replace q20 := eq_true q20
            go_wp2
            go_roundg k2
            case measure => have := HJ4.out; have := HK2.out; omega
            case rel => exact ⟨(true), (true), (wrap64 (x33_2 + 1)), (by first | with_reducible rfl | (simp only [pps, Nat.reduceAdd]; done) | rfl | (simp; done) | (simp [*]; done)), (by first | with_reducible rfl | (simp only [pps, Nat.reduceAdd]; done) | rfl | (simp; done) | (simp [*]; done)), (by first | with_reducible rfl | (simp only [pps, Nat.reduceAdd]; done) | rfl | (simp; done) | (simp [*]; done)), H', ⟨by have := HJ4.out; have := HK2.out; omega⟩, ⟨by repeat (first | (with_reducible first | exact HB.out | apply below_alloc | apply pw_below_drewN | apply below_drew1) | exact HB.out)⟩⟩
           ·
            replace c22 := Bool.eq_false_iff.mpr c22
            subst c22
            have H1 : (haversacklaw07_NamesStars.l0 k2 a0 a1 a2 a3 true ((bt a2 x33_2) == 47) (a2.size : Int) (wrap64 (x33_2 + 1))) = some r := by rw [if_neg (show ¬ (false = true) by decide)] at H; exact H
            clear H
            have H := H1
            clear H1
            have H' := Aside0.mk H
            clear H
            have p20 : 0 ≤ (x33_2 : Int) := of_decide_eq_true (by first | (with_reducible assumption) | assumption)
            have q20 : x33_2 < (a2.size : Int) := of_decide_eq_true (by first | (with_reducible assumption) | assumption)
            have hx20 := bt_at a2 x33_2
            replace p20 := eq_true p20
            replace q20 := eq_true q20
            have p23 : 0 ≤ (x33_2 : Int) := of_decide_eq_true (by first | (with_reducible assumption) | assumption)
            have q23 : x33_2 < (a2.size : Int) := of_decide_eq_true (by first | (with_reducible assumption) | assumption)
            have hx23 := bt_at a2 x33_2
            replace p23 := eq_true p23
            replace q23 := eq_true q23
            go_wp2
            go_roundg k2
            case measure => have := HJ4.out; have := HK2.out; omega
            case rel => exact ⟨(true), (((bt a2 x33_2) == 47)), (wrap64 (x33_2 + 1)), (by first | with_reducible rfl | (simp only [pps, Nat.reduceAdd]; done) | rfl | (simp; done) | (simp [*]; done)), (by first | with_reducible rfl | (simp only [pps, Nat.reduceAdd]; done) | rfl | (simp; done) | (simp [*]; done)), (by first | with_reducible rfl | (simp only [pps, Nat.reduceAdd]; done) | rfl | (simp; done) | (simp [*]; done)), H', ⟨by have := HJ4.out; have := HK2.out; omega⟩, ⟨by repeat (first | (with_reducible first | exact HB.out | apply below_alloc | apply pw_below_drewN | apply below_drew1) | exact HB.out)⟩⟩
          ·
           rw [if_neg c21] at H
           have c21b0 : ((bt a2 x33_2) == 42) = false := beq_eq_false_iff_ne.mpr c21
           have c21b1 : ((bt a2 x33_2) != 42) = true := bne_iff_ne.mpr c21
           by_cases c25 : x10_2 = true
           ·
            subst c25
            have H1 : (haversacklaw07_NamesStars.l0 k2 a0 a1 a2 a3 ((bt a2 x33_2) == 37) true (a2.size : Int) (wrap64 (x33_2 + 1))) = some r := by rw [if_pos rfl] at H; exact H
            clear H
            have H := H1
            clear H1
            have H' := Aside0.mk H
            clear H
            have p20 : 0 ≤ (x33_2 : Int) := of_decide_eq_true (by first | (with_reducible assumption) | assumption)
            have q20 : x33_2 < (a2.size : Int) := of_decide_eq_true (by first | (with_reducible assumption) | assumption)
            have hx20 := bt_at a2 x33_2
            replace p20 := eq_true p20
            replace q20 := eq_true q20
            have p24 : 0 ≤ (x33_2 : Int) := of_decide_eq_true (by first | (with_reducible assumption) | assumption)
            have q24 : x33_2 < (a2.size : Int) := of_decide_eq_true (by first | (with_reducible assumption) | assumption)
            have hx24 := bt_at a2 x33_2
            replace p24 := eq_true p24
            replace q24 := eq_true q24
            go_wp2
            go_roundg k2
            case measure => have := HJ4.out; have := HK2.out; omega
            case rel => exact ⟨(((bt a2 x33_2) == 37)), (true), (wrap64 (x33_2 + 1)), (by first | with_reducible rfl | (simp only [pps, Nat.reduceAdd]; done) | rfl | (simp; done) | (simp [*]; done)), (by first | with_reducible rfl | (simp only [pps, Nat.reduceAdd]; done) | rfl | (simp; done) | (simp [*]; done)), (by first | with_reducible rfl | (simp only [pps, Nat.reduceAdd]; done) | rfl | (simp; done) | (simp [*]; done)), H', ⟨by have := HJ4.out; have := HK2.out; omega⟩, ⟨by repeat (first | (with_reducible first | exact HB.out | apply below_alloc | apply pw_below_drewN | apply below_drew1) | exact HB.out)⟩⟩
           ·
            replace c25 := Bool.eq_false_iff.mpr c25
            subst c25
            have H1 : (haversacklaw07_NamesStars.l0 k2 a0 a1 a2 a3 ((bt a2 x33_2) == 37) ((bt a2 x33_2) == 47) (a2.size : Int) (wrap64 (x33_2 + 1))) = some r := by rw [if_neg (show ¬ (false = true) by decide)] at H; exact H
            clear H
            have H := H1
            clear H1
            have H' := Aside0.mk H
            clear H
            have p20 : 0 ≤ (x33_2 : Int) := of_decide_eq_true (by first | (with_reducible assumption) | assumption)
            have q20 : x33_2 < (a2.size : Int) := of_decide_eq_true (by first | (with_reducible assumption) | assumption)
            have hx20 := bt_at a2 x33_2
            replace p20 := eq_true p20
            replace q20 := eq_true q20
            have p24 : 0 ≤ (x33_2 : Int) := of_decide_eq_true (by first | (with_reducible assumption) | assumption)
            have q24 : x33_2 < (a2.size : Int) := of_decide_eq_true (by first | (with_reducible assumption) | assumption)
            have hx24 := bt_at a2 x33_2
            replace p24 := eq_true p24
            replace q24 := eq_true q24
            have p26 : 0 ≤ (x33_2 : Int) := of_decide_eq_true (by first | (with_reducible assumption) | assumption)
            have q26 : x33_2 < (a2.size : Int) := of_decide_eq_true (by first | (with_reducible assumption) | assumption)
            have hx26 := bt_at a2 x33_2
            replace p26 := eq_true p26
            replace q26 := eq_true q26
            go_wp2
            go_roundg k2
            case measure => have := HJ4.out; have := HK2.out; omega
            case rel => exact ⟨(((bt a2 x33_2) == 37)), (((bt a2 x33_2) == 47)), (wrap64 (x33_2 + 1)), (by first | with_reducible rfl | (simp only [pps, Nat.reduceAdd]; done) | rfl | (simp; done) | (simp [*]; done)), (by first | with_reducible rfl | (simp only [pps, Nat.reduceAdd]; done) | rfl | (simp; done) | (simp [*]; done)), (by first | with_reducible rfl | (simp only [pps, Nat.reduceAdd]; done) | rfl | (simp; done) | (simp [*]; done)), H', ⟨by have := HJ4.out; have := HK2.out; omega⟩, ⟨by repeat (first | (with_reducible first | exact HB.out | apply below_alloc | apply pw_below_drewN | apply below_drew1) | exact HB.out)⟩⟩
         ·
          rw [if_neg c19] at H
          exact absurd H (by simp)
        ·
         rw [if_neg c18] at H
         exact absurd H (by simp)
      ·
       rw [if_neg c12] at H
       have c12b0 : decide (x33_2 < (a2.size : Int)) = false := decide_eq_false c12
       clear c12
       have HC27 := Aside0.mk H
       clear H
       go_upto_region 10 with (fail)
       go_cut [67] (fun v67 wc => ∃ (kq : Nat) (x67_26 : Bool), v67 = .bool x67_26 ∧ Aside0 (haversacklaw07_NamesStars.j2 kq a0 a1 a2 a3 x10_2 x67_26 = some r) ∧ Aside0 (kq ≤ k2) ∧ Aside0 (Below w.heap.size w wc))
       case first =>
        have H := HC27.out
        clear HC27
        by_cases c28 : x9_2 = true
        ·
         subst c28
         have H1 : (haversacklaw07_NamesStars.j2 k2 a0 a1 a2 a3 x10_2 false) = some r := by rw [if_pos rfl] at H; exact H
         clear H
         have H := H1
         clear H1
         have H' := Aside0.mk H
         clear H
         go_wp2
         go_meet
         case rel => exact ⟨_, (false), (by first | with_reducible rfl | (simp only [pps, Nat.reduceAdd]; done) | rfl | (simp; done) | (simp [*]; done)), H', ⟨by have := HJ4.out; have := HK2.out; first | omega | exact Nat.le_refl _⟩, ⟨by repeat (first | (with_reducible first | exact HB.out | apply below_alloc | apply pw_below_drewN | apply below_drew1) | exact HB.out)⟩⟩
        ·
         replace c28 := Bool.eq_false_iff.mpr c28
         subst c28
         have H1 : ((names_Match.f k2 a2 a3).bind fun t163 => (haversacklaw07_NamesStars.j2 k2 a0 a1 a2 a3 x10_2 (t163 != (a2.toList == a3.toList)))) = some r := by rw [if_neg (show ¬ (false = true) by decide)] at H; exact H
         clear H
         have H := H1
         clear H1
         replace H := Option.bind_eq_some_iff.mp H
         obtain ⟨t163, A290, H⟩ := H
         replace H : (haversacklaw07_NamesStars.j2 k2 a0 a1 a2 a3 x10_2 (t163 != (a2.toList == a3.toList))) = some r := H
         have A29 := Aside0.mk A290
         clear A290
         have H' := Aside0.mk H
         clear H
         go_wp2_with (first | (go_at_call 18; (with_reducible refine (names_Match.calls k2 a2 a3 t163 _ A29.out).mono ?_); rintro e w30 ⟨rfl, hb⟩; have n0_ := Aside0.mk (below_step (by repeat (first | (with_reducible first | exact HB.out | apply below_alloc | apply pw_below_drewN | apply below_drew1) | exact HB.out)) hb); clear HB; have HB := n0_; clear n0_; (try clear hb); (try clear hb2); (try clear hk); (try clear hi)))
         go_meet
         case rel => exact ⟨_, ((t163 != (a2.toList == a3.toList))), (by first | with_reducible rfl | (simp only [pps, Nat.reduceAdd]; done) | rfl | (simp; done) | (simp [*]; done)), H', ⟨by have := HJ4.out; have := HK2.out; first | omega | exact Nat.le_refl _⟩, ⟨by repeat (first | (with_reducible first | exact HB.out | apply below_alloc | apply pw_below_drewN | apply below_drew1) | exact HB.out)⟩⟩
       case rest =>
        clear HC27
        try clear c1
        try clear p1
        try clear q1
        try clear hx1
        try clear c2
        try clear p2
        try clear q2
        try clear hx2
        try clear c6
        try clear c6b0
        try clear c6b1
        try clear p6
        try clear c7
        try clear c7b0
        try clear c7b1
        try clear c8
        try clear c8b0
        try clear c8b1
        try clear c9
        try clear c10
        try clear c12
        try clear c12b0
        try clear c13
        try clear c14
        try clear c15
        try clear c15b0
        try clear c16
        try clear c16b0
        try clear p17
        try clear q17
        try clear hx17
        try clear c18
        try clear c18b0
        try clear c19
        try clear c19b0
        try clear p20
        try clear q20
        try clear hx20
        try clear c21
        try clear c21b0
        try clear c21b1
        try clear c22
        try clear p23
        try clear q23
        try clear hx23
        try clear p24
        try clear q24
        try clear hx24
        try clear c25
        try clear p26
        try clear q26
        try clear hx26
        try clear c28
        try clear p17
        try clear p2
        try clear p20
        try clear p23
        try clear p24
        try clear p26
        try clear q17
        try clear q20
        try clear q23
        try clear q24
        try clear q26
        obtain ⟨kq, x67_26, rfl, HA, HJ26, HB⟩ := hcut
        cases kq with
        | zero => exact absurd HA.out (by simp [haversacklaw07_NamesStars.j2])
        | succ kj26 =>
         have H := HA.out
         clear HA
         simp only [haversacklaw07_NamesStars.j2] at H
         by_cases c31 : x67_26 = true
         ·
          subst c31
          have H1 : (some false) = some r := by rw [if_pos rfl] at H; exact H
          clear H
          have H := H1
          clear H1
          obtain rfl := Option.some.inj H
          go_wp2
          go_ret
          exact ⟨by first | rfl | (simp [errW_none, errW_some] <;> rfl) | (simp [*, errW_none, errW_some] <;> rfl), by repeat (first | (with_reducible first | exact HB.out | apply below_alloc | apply pw_below_drewN | apply below_drew1) | exact HB.out)⟩
         ·
          replace c31 := Bool.eq_false_iff.mpr c31
          subst c31
          have H1 : ((names_Match.f kj26 a0 a2).bind fun t164 => (if t164 = true then ((names_Match.f kj26 a1 a3).bind fun t165 => (if t165 = true then (if a0.size + a1.size ≤ 9223372036854775807 then (if a2.size + a3.size ≤ 9223372036854775807 then ((names_Match.f kj26 (a0 ++ a1) (a2 ++ a3)).bind fun t166 => (haversacklaw07_NamesStars.j3 kj26 a0 a1 a2 x10_2 (!t166))) else (none)) else (none)) else (haversacklaw07_NamesStars.j3 kj26 a0 a1 a2 x10_2 false))) else (haversacklaw07_NamesStars.j3 kj26 a0 a1 a2 x10_2 false))) = some r := by rw [if_neg (show ¬ (false = true) by decide)] at H; exact H
          clear H
          have H := H1
          clear H1
          have HC32 := Aside0.mk H
          clear H
          go_upto_region 12 with (fail)
          go_cut [85] (fun v85 wc => ∃ (kq : Nat) (x85_31 : Bool), v85 = .bool x85_31 ∧ Aside0 (haversacklaw07_NamesStars.j3 kq a0 a1 a2 x10_2 x85_31 = some r) ∧ Aside0 (kq ≤ kj26) ∧ Aside0 (Below w.heap.size w wc))
          case first =>
           have H := HC32.out
           clear HC32
           replace H := Option.bind_eq_some_iff.mp H
           obtain ⟨t164, A330, H⟩ := H
           replace H : (if t164 = true then ((names_Match.f kj26 a1 a3).bind fun t165 => (if t165 = true then (if a0.size + a1.size ≤ 9223372036854775807 then (if a2.size + a3.size ≤ 9223372036854775807 then ((names_Match.f kj26 (a0 ++ a1) (a2 ++ a3)).bind fun t166 => (haversacklaw07_NamesStars.j3 kj26 a0 a1 a2 x10_2 (!t166))) else (none)) else (none)) else (haversacklaw07_NamesStars.j3 kj26 a0 a1 a2 x10_2 false))) else (haversacklaw07_NamesStars.j3 kj26 a0 a1 a2 x10_2 false)) = some r := H
           have A33 := Aside0.mk A330
           clear A330
           by_cases c34 : t164 = true
           ·
            subst c34
            have H1 : ((names_Match.f kj26 a1 a3).bind fun t165 => (if t165 = true then (if a0.size + a1.size ≤ 9223372036854775807 then (if a2.size + a3.size ≤ 9223372036854775807 then ((names_Match.f kj26 (a0 ++ a1) (a2 ++ a3)).bind fun t166 => (haversacklaw07_NamesStars.j3 kj26 a0 a1 a2 x10_2 (!t166))) else (none)) else (none)) else (haversacklaw07_NamesStars.j3 kj26 a0 a1 a2 x10_2 false))) = some r := by rw [if_pos rfl] at H; exact H
            clear H
            have H := H1
            clear H1
            replace H := Option.bind_eq_some_iff.mp H
            obtain ⟨t165, A350, H⟩ := H
            replace H : (if t165 = true then (if a0.size + a1.size ≤ 9223372036854775807 then (if a2.size + a3.size ≤ 9223372036854775807 then ((names_Match.f kj26 (a0 ++ a1) (a2 ++ a3)).bind fun t166 => (haversacklaw07_NamesStars.j3 kj26 a0 a1 a2 x10_2 (!t166))) else (none)) else (none)) else (haversacklaw07_NamesStars.j3 kj26 a0 a1 a2 x10_2 false)) = some r := H
            have A35 := Aside0.mk A350
            clear A350
            by_cases c36 : t165 = true
            ·
             subst c36
             have H1 : (if a0.size + a1.size ≤ 9223372036854775807 then (if a2.size + a3.size ≤ 9223372036854775807 then ((names_Match.f kj26 (a0 ++ a1) (a2 ++ a3)).bind fun t166 => (haversacklaw07_NamesStars.j3 kj26 a0 a1 a2 x10_2 (!t166))) else (none)) else (none)) = some r := by rw [if_pos rfl] at H; exact H
             clear H
             have H := H1
             clear H1
             by_cases c37 : a0.size + a1.size ≤ 9223372036854775807
             ·
              rw [if_pos c37] at H
              have c37b0 := eq_true c37
              have c37b1 : decide (a0.size + a1.size ≤ 9223372036854775807) = true := decide_eq_true c37
              try have c37b2 : (9223372036854775807 < a0.size + a1.size) = False := eq_false (Nat.not_lt.2 c37)
              by_cases c38 : a2.size + a3.size ≤ 9223372036854775807
              ·
               rw [if_pos c38] at H
               have c38b0 := eq_true c38
               have c38b1 : decide (a2.size + a3.size ≤ 9223372036854775807) = true := decide_eq_true c38
               try have c38b2 : (9223372036854775807 < a2.size + a3.size) = False := eq_false (Nat.not_lt.2 c38)
               replace H := Option.bind_eq_some_iff.mp H
               obtain ⟨t166, A390, H⟩ := H
               replace H : (haversacklaw07_NamesStars.j3 kj26 a0 a1 a2 x10_2 (!t166)) = some r := H
               have A39 := Aside0.mk A390
               clear A390
               have H' := Aside0.mk H
               clear H
               go_wp2_with (first | ((with_reducible refine gate_callee (f := 18) rfl ?_); refine goesL_ (some 70) rfl rfl Tryd.func18 (by kernel_rfl) rfl #[.string a0, .string a2] rfl (by (try simp only [List.map_toArray, List.map_cons, List.map_nil]); first | done | rfl | (simp only [List.length_drop, List.length_take]; rfl)) ?_; (with_reducible refine (names_Match.calls kj26 a0 a2 true _ A33.out).mono ?_); rintro e w40 ⟨rfl, hb⟩; refine ⟨_, rfl, ?_⟩; have n0_ := Aside0.mk (below_step (by repeat (first | (with_reducible first | exact HB.out | apply below_alloc | apply pw_below_drewN | apply below_drew1) | exact HB.out)) hb); clear HB; have HB := n0_; clear n0_; (try clear hb); (try clear hb2); (try clear hk); (try clear hi)) | (go_at_call 18; (with_reducible refine (names_Match.calls kj26 a1 a3 true _ A35.out).mono ?_); rintro e w41 ⟨rfl, hb⟩; have n0_ := Aside0.mk (below_step (by repeat (first | (with_reducible first | exact HB.out | apply below_alloc | apply pw_below_drewN | apply below_drew1) | exact HB.out)) hb); clear HB; have HB := n0_; clear n0_; (try clear hb); (try clear hb2); (try clear hk); (try clear hi)) | (go_at_call 18; (with_reducible refine (names_Match.calls kj26 (a0 ++ a1) (a2 ++ a3) t166 _ A39.out).mono ?_); rintro e w42 ⟨rfl, hb⟩; have n0_ := Aside0.mk (below_step (by repeat (first | (with_reducible first | exact HB.out | apply below_alloc | apply pw_below_drewN | apply below_drew1) | exact HB.out)) hb); clear HB; have HB := n0_; clear n0_; (try clear hb); (try clear hb2); (try clear hk); (try clear hi)))
               go_meet
               case rel => exact ⟨_, (!t166), (by first | with_reducible rfl | (simp only [pps, Nat.reduceAdd]; done) | rfl | (simp; done) | (simp [*]; done)), H', ⟨by have := HJ4.out; have := HK2.out; have := HJ26.out; first | omega | exact Nat.le_refl _⟩, ⟨by repeat (first | (with_reducible first | exact HB.out | apply below_alloc | apply pw_below_drewN | apply below_drew1) | exact HB.out)⟩⟩
              ·
               rw [if_neg c38] at H
               exact absurd H (by simp)
             ·
              rw [if_neg c37] at H
              exact absurd H (by simp)
            ·
             replace c36 := Bool.eq_false_iff.mpr c36
             subst c36
             have H1 : (haversacklaw07_NamesStars.j3 kj26 a0 a1 a2 x10_2 false) = some r := by rw [if_neg (show ¬ (false = true) by decide)] at H; exact H
             clear H
             have H := H1
             clear H1
             have H' := Aside0.mk H
             clear H
             go_wp2_with (first | ((with_reducible refine gate_callee (f := 18) rfl ?_); refine goesL_ (some 70) rfl rfl Tryd.func18 (by kernel_rfl) rfl #[.string a0, .string a2] rfl (by (try simp only [List.map_toArray, List.map_cons, List.map_nil]); first | done | rfl | (simp only [List.length_drop, List.length_take]; rfl)) ?_; (with_reducible refine (names_Match.calls kj26 a0 a2 true _ A33.out).mono ?_); rintro e w43 ⟨rfl, hb⟩; refine ⟨_, rfl, ?_⟩; have n0_ := Aside0.mk (below_step (by repeat (first | (with_reducible first | exact HB.out | apply below_alloc | apply pw_below_drewN | apply below_drew1) | exact HB.out)) hb); clear HB; have HB := n0_; clear n0_; (try clear hb); (try clear hb2); (try clear hk); (try clear hi)) | (go_at_call 18; (with_reducible refine (names_Match.calls kj26 a1 a3 false _ A35.out).mono ?_); rintro e w44 ⟨rfl, hb⟩; have n0_ := Aside0.mk (below_step (by repeat (first | (with_reducible first | exact HB.out | apply below_alloc | apply pw_below_drewN | apply below_drew1) | exact HB.out)) hb); clear HB; have HB := n0_; clear n0_; (try clear hb); (try clear hb2); (try clear hk); (try clear hi)))
             go_meet
             case rel => exact ⟨_, (false), (by first | with_reducible rfl | (simp only [pps, Nat.reduceAdd]; done) | rfl | (simp; done) | (simp [*]; done)), H', ⟨by have := HJ4.out; have := HK2.out; have := HJ26.out; first | omega | exact Nat.le_refl _⟩, ⟨by repeat (first | (with_reducible first | exact HB.out | apply below_alloc | apply pw_below_drewN | apply below_drew1) | exact HB.out)⟩⟩
           ·
            replace c34 := Bool.eq_false_iff.mpr c34
            subst c34
            have H1 : (haversacklaw07_NamesStars.j3 kj26 a0 a1 a2 x10_2 false) = some r := by rw [if_neg (show ¬ (false = true) by decide)] at H; exact H
            clear H
            have H := H1
            clear H1
            have H' := Aside0.mk H
            clear H
            go_wp2_with (first | ((with_reducible refine gate_callee (f := 18) rfl ?_); refine goesL_ (some 70) rfl rfl Tryd.func18 (by kernel_rfl) rfl #[.string a0, .string a2] rfl (by (try simp only [List.map_toArray, List.map_cons, List.map_nil]); first | done | rfl | (simp only [List.length_drop, List.length_take]; rfl)) ?_; (with_reducible refine (names_Match.calls kj26 a0 a2 false _ A33.out).mono ?_); rintro e w45 ⟨rfl, hb⟩; refine ⟨_, rfl, ?_⟩; have n0_ := Aside0.mk (below_step (by repeat (first | (with_reducible first | exact HB.out | apply below_alloc | apply pw_below_drewN | apply below_drew1) | exact HB.out)) hb); clear HB; have HB := n0_; clear n0_; (try clear hb); (try clear hb2); (try clear hk); (try clear hi)))
            go_meet
            case rel => exact ⟨_, (false), (by first | with_reducible rfl | (simp only [pps, Nat.reduceAdd]; done) | rfl | (simp; done) | (simp [*]; done)), H', ⟨by have := HJ4.out; have := HK2.out; have := HJ26.out; first | omega | exact Nat.le_refl _⟩, ⟨by repeat (first | (with_reducible first | exact HB.out | apply below_alloc | apply pw_below_drewN | apply below_drew1) | exact HB.out)⟩⟩
          case rest =>
           clear HC32
           try clear c1
           try clear p1
           try clear q1
           try clear hx1
           try clear c2
           try clear p2
           try clear q2
           try clear hx2
           try clear c3
           try clear c6
           try clear c6b0
           try clear c6b1
           try clear p6
           try clear c7
           try clear c7b0
           try clear c7b1
           try clear c8
           try clear c8b0
           try clear c8b1
           try clear c9
           try clear c10
           try clear c12
           try clear c12b0
           try clear c13
           try clear c14
           try clear c15
           try clear c15b0
           try clear c16
           try clear c16b0
           try clear p17
           try clear q17
           try clear hx17
           try clear c18
           try clear c18b0
           try clear c19
           try clear c19b0
           try clear p20
           try clear q20
           try clear hx20
           try clear c21
           try clear c21b0
           try clear c21b1
           try clear c22
           try clear p23
           try clear q23
           try clear hx23
           try clear p24
           try clear q24
           try clear hx24
           try clear c25
           try clear p26
           try clear q26
           try clear hx26
           try clear c28
           try clear c31
           try clear c34
           try clear c36
           try clear c37
           try clear c37b0
           try clear c37b1
           try clear c37b2
           try clear c38
           try clear c38b0
           try clear c38b1
           try clear c38b2
           try clear p1
           try clear p17
           try clear p2
           try clear p20
           try clear p23
           try clear p24
           try clear p26
           try clear p6
           try clear q1
           try clear q17
           try clear q2
           try clear q20
           try clear q23
           try clear q24
           try clear q26
           obtain ⟨kq, x85_31, rfl, HA, HJ31, HB⟩ := hcut
           cases kq with
           | zero => exact absurd HA.out (by simp [haversacklaw07_NamesStars.j3])
           | succ kj31 =>
            have H := HA.out
            clear HA
            simp only [haversacklaw07_NamesStars.j3] at H
            by_cases c46 : x85_31 = true
            ·
             subst c46
             have H1 : (some false) = some r := by rw [if_pos rfl] at H; exact H
             clear H
             have H := H1
             clear H1
             obtain rfl := Option.some.inj H
             go_wp2
             go_ret
             exact ⟨by first | rfl | (simp [errW_none, errW_some] <;> rfl) | (simp [*, errW_none, errW_some] <;> rfl), by repeat (first | (with_reducible first | exact HB.out | apply below_alloc | apply pw_below_drewN | apply below_drew1) | exact HB.out)⟩
            ·
             replace c46 := Bool.eq_false_iff.mpr c46
             subst c46
             have H1 : ((names_Match.f kj31 (⟨#[42]⟩ : ByteArray) a2).bind fun t167 => (if t167 = true then ((names_Match.f kj31 (⟨#[37]⟩ : ByteArray) a2).bind fun t168 => (if (t168 != (!x10_2)) = true then (haversacklaw07_NamesStars.j4 kj31 a0 a1 a2 true) else (if a0.size + 1 ≤ 9223372036854775807 then ((names_Match.f kj31 (a0 ++ (⟨#[42]⟩ : ByteArray)) a2).bind fun t169 => (if t169 = true then (haversacklaw07_NamesStars.j4 kj31 a0 a1 a2 false) else ((names_Match.f kj31 a0 a2).bind fun t170 => (haversacklaw07_NamesStars.j4 kj31 a0 a1 a2 t170)))) else (none)))) else (haversacklaw07_NamesStars.j4 kj31 a0 a1 a2 true))) = some r := by rw [if_neg (show ¬ (false = true) by decide)] at H; exact H
             clear H
             have H := H1
             clear H1
             have HC47 := Aside0.mk H
             clear H
             go_upto_region 14 with (fail)
             go_cut [107] (fun v107 wc => ∃ (kq : Nat) (x107_46 : Bool), v107 = .bool x107_46 ∧ Aside0 (haversacklaw07_NamesStars.j4 kq a0 a1 a2 x107_46 = some r) ∧ Aside0 (kq ≤ kj31) ∧ Aside0 (Below w.heap.size w wc))
             case first =>
              have H := HC47.out
              clear HC47
              replace H := Option.bind_eq_some_iff.mp H
              obtain ⟨t167, A480, H⟩ := H
              replace H : (if t167 = true then ((names_Match.f kj31 (⟨#[37]⟩ : ByteArray) a2).bind fun t168 => (if (t168 != (!x10_2)) = true then (haversacklaw07_NamesStars.j4 kj31 a0 a1 a2 true) else (if a0.size + 1 ≤ 9223372036854775807 then ((names_Match.f kj31 (a0 ++ (⟨#[42]⟩ : ByteArray)) a2).bind fun t169 => (if t169 = true then (haversacklaw07_NamesStars.j4 kj31 a0 a1 a2 false) else ((names_Match.f kj31 a0 a2).bind fun t170 => (haversacklaw07_NamesStars.j4 kj31 a0 a1 a2 t170)))) else (none)))) else (haversacklaw07_NamesStars.j4 kj31 a0 a1 a2 true)) = some r := H
              have A48 := Aside0.mk A480
              clear A480
              by_cases c49 : t167 = true
              ·
               subst c49
               have H1 : ((names_Match.f kj31 (⟨#[37]⟩ : ByteArray) a2).bind fun t168 => (if (t168 != (!x10_2)) = true then (haversacklaw07_NamesStars.j4 kj31 a0 a1 a2 true) else (if a0.size + 1 ≤ 9223372036854775807 then ((names_Match.f kj31 (a0 ++ (⟨#[42]⟩ : ByteArray)) a2).bind fun t169 => (if t169 = true then (haversacklaw07_NamesStars.j4 kj31 a0 a1 a2 false) else ((names_Match.f kj31 a0 a2).bind fun t170 => (haversacklaw07_NamesStars.j4 kj31 a0 a1 a2 t170)))) else (none)))) = some r := by rw [if_pos rfl] at H; exact H
               clear H
               have H := H1
               clear H1
               replace H := Option.bind_eq_some_iff.mp H
               obtain ⟨t168, A500, H⟩ := H
               replace H : (if (t168 != (!x10_2)) = true then (haversacklaw07_NamesStars.j4 kj31 a0 a1 a2 true) else (if a0.size + 1 ≤ 9223372036854775807 then ((names_Match.f kj31 (a0 ++ (⟨#[42]⟩ : ByteArray)) a2).bind fun t169 => (if t169 = true then (haversacklaw07_NamesStars.j4 kj31 a0 a1 a2 false) else ((names_Match.f kj31 a0 a2).bind fun t170 => (haversacklaw07_NamesStars.j4 kj31 a0 a1 a2 t170)))) else (none))) = some r := H
               have A50 := Aside0.mk A500
               clear A500
               by_cases c51 : (t168 != (!x10_2)) = true
               ·
                rw [if_pos c51] at H
                have c51b0 : (t168 != (!x10_2)) = true := c51
                (try (have c51b1 : decide (t168 = (!x10_2)) = false := by simpa using c51))
                (try (have c51b2 : (t168 == (!x10_2)) = false := by simpa using c51))
                (try (have c51b3 : ¬ (t168 = (!x10_2)) := by simpa using c51))
                clear c51
                (first | rw [c51b0] | (simp only [i64_w, i32_w]; rw [c51b0]) | skip)
                have H' := Aside0.mk H
                clear H
                go_wp2_with (first | ((with_reducible refine gate_callee (f := 18) rfl ?_); refine goesL_ (some 87) rfl rfl Tryd.func18 (by kernel_rfl) rfl #[.string (⟨#[42]⟩ : ByteArray), .string a2] rfl (by (try simp only [List.map_toArray, List.map_cons, List.map_nil]); first | done | rfl | (simp only [List.length_drop, List.length_take]; rfl)) ?_; (with_reducible refine (names_Match.calls kj31 (⟨#[42]⟩ : ByteArray) a2 true _ A48.out).mono ?_); rintro e w52 ⟨rfl, hb⟩; refine ⟨_, rfl, ?_⟩; have n0_ := Aside0.mk (below_step (by repeat (first | (with_reducible first | exact HB.out | apply below_alloc | apply pw_below_drewN | apply below_drew1) | exact HB.out)) hb); clear HB; have HB := n0_; clear n0_; (try clear hb); (try clear hb2); (try clear hk); (try clear hi)) | (go_at_call 18; (with_reducible refine (names_Match.calls kj31 (⟨#[37]⟩ : ByteArray) a2 t168 _ A50.out).mono ?_); rintro e w53 ⟨rfl, hb⟩; have n0_ := Aside0.mk (below_step (by repeat (first | (with_reducible first | exact HB.out | apply below_alloc | apply pw_below_drewN | apply below_drew1) | exact HB.out)) hb); clear HB; have HB := n0_; clear n0_; (try clear hb); (try clear hb2); (try clear hk); (try clear hi)))
                go_meet
                case rel => exact ⟨_, (true), (by first | with_reducible rfl | (simp only [pps, Nat.reduceAdd]; done) | rfl | (simp; done) | (simp [*]; done)), H', ⟨by have := HJ4.out; have := HK2.out; have := HJ26.out; have := HJ31.out; first | omega | exact Nat.le_refl _⟩, ⟨by repeat (first | (with_reducible first | exact HB.out | apply below_alloc | apply pw_below_drewN | apply below_drew1) | exact HB.out)⟩⟩
               ·
                rw [if_neg c51] at H
                have c51b0 : (t168 != (!x10_2)) = false := by simpa using c51
                (try (have c51b1 : decide (t168 = (!x10_2)) = true := by simpa using c51))
                (try (have c51b2 : (t168 == (!x10_2)) = true := by simpa using c51))
                (try (have c51b8 := eq_true (bne_eq_false_iff_eq.mp c51b0 : t168 = (!x10_2))))
                clear c51
                (first | rw [c51b0] | (simp only [i64_w, i32_w]; rw [c51b0]) | skip)
                by_cases c54 : a0.size + 1 ≤ 9223372036854775807
                ·
                 rw [if_pos c54] at H
                 have c54b0 := eq_true c54
                 have c54b1 : decide (a0.size + 1 ≤ 9223372036854775807) = true := decide_eq_true c54
                 try have c54b2 : (9223372036854775807 < a0.size + 1) = False := eq_false (Nat.not_lt.2 c54)
                 replace H := Option.bind_eq_some_iff.mp H
                 obtain ⟨t169, A550, H⟩ := H
                 replace H : (if t169 = true then (haversacklaw07_NamesStars.j4 kj31 a0 a1 a2 false) else ((names_Match.f kj31 a0 a2).bind fun t170 => (haversacklaw07_NamesStars.j4 kj31 a0 a1 a2 t170))) = some r := H
                 have A55 := Aside0.mk A550
                 clear A550
                 by_cases c56 : t169 = true
                 ·
                  subst c56
                  have H1 : (haversacklaw07_NamesStars.j4 kj31 a0 a1 a2 false) = some r := by rw [if_pos rfl] at H; exact H
                  clear H
                  have H := H1
                  clear H1
                  have H' := Aside0.mk H
                  clear H
                  go_wp2_with (first | ((with_reducible refine gate_callee (f := 18) rfl ?_); refine goesL_ (some 87) rfl rfl Tryd.func18 (by kernel_rfl) rfl #[.string (⟨#[42]⟩ : ByteArray), .string a2] rfl (by (try simp only [List.map_toArray, List.map_cons, List.map_nil]); first | done | rfl | (simp only [List.length_drop, List.length_take]; rfl)) ?_; (with_reducible refine (names_Match.calls kj31 (⟨#[42]⟩ : ByteArray) a2 true _ A48.out).mono ?_); rintro e w57 ⟨rfl, hb⟩; refine ⟨_, rfl, ?_⟩; have n0_ := Aside0.mk (below_step (by repeat (first | (with_reducible first | exact HB.out | apply below_alloc | apply pw_below_drewN | apply below_drew1) | exact HB.out)) hb); clear HB; have HB := n0_; clear n0_; (try clear hb); (try clear hb2); (try clear hk); (try clear hi)) | (go_at_call 18; (with_reducible refine (names_Match.calls kj31 (⟨#[37]⟩ : ByteArray) a2 t168 _ A50.out).mono ?_); rintro e w58 ⟨rfl, hb⟩; have n0_ := Aside0.mk (below_step (by repeat (first | (with_reducible first | exact HB.out | apply below_alloc | apply pw_below_drewN | apply below_drew1) | exact HB.out)) hb); clear HB; have HB := n0_; clear n0_; (try clear hb); (try clear hb2); (try clear hk); (try clear hi)) | (go_at_call 18; (with_reducible refine (names_Match.calls kj31 (a0 ++ (⟨#[42]⟩ : ByteArray)) a2 true _ A55.out).mono ?_); rintro e w59 ⟨rfl, hb⟩; have n0_ := Aside0.mk (below_step (by repeat (first | (with_reducible first | exact HB.out | apply below_alloc | apply pw_below_drewN | apply below_drew1) | exact HB.out)) hb); clear HB; have HB := n0_; clear n0_; (try clear hb); (try clear hb2); (try clear hk); (try clear hi)))
                  go_meet
                  case rel => exact ⟨_, (false), (by first | with_reducible rfl | (simp only [pps, Nat.reduceAdd]; done) | rfl | (simp; done) | (simp [*]; done)), H', ⟨by have := HJ4.out; have := HK2.out; have := HJ26.out; have := HJ31.out; first | omega | exact Nat.le_refl _⟩, ⟨by repeat (first | (with_reducible first | exact HB.out | apply below_alloc | apply pw_below_drewN | apply below_drew1) | exact HB.out)⟩⟩
                 ·
                  replace c56 := Bool.eq_false_iff.mpr c56
                  subst c56
                  have H1 : ((names_Match.f kj31 a0 a2).bind fun t170 => (haversacklaw07_NamesStars.j4 kj31 a0 a1 a2 t170)) = some r := by rw [if_neg (show ¬ (false = true) by decide)] at H; exact H
                  clear H
                  have H := H1
                  clear H1
                  replace H := Option.bind_eq_some_iff.mp H
                  obtain ⟨t170, A600, H⟩ := H
                  replace H : (haversacklaw07_NamesStars.j4 kj31 a0 a1 a2 t170) = some r := H
                  have A60 := Aside0.mk A600
                  clear A600
                  have H' := Aside0.mk H
                  clear H
                  go_wp2_with (first | ((with_reducible refine gate_callee (f := 18) rfl ?_); refine goesL_ (some 87) rfl rfl Tryd.func18 (by kernel_rfl) rfl #[.string (⟨#[42]⟩ : ByteArray), .string a2] rfl (by (try simp only [List.map_toArray, List.map_cons, List.map_nil]); first | done | rfl | (simp only [List.length_drop, List.length_take]; rfl)) ?_; (with_reducible refine (names_Match.calls kj31 (⟨#[42]⟩ : ByteArray) a2 true _ A48.out).mono ?_); rintro e w61 ⟨rfl, hb⟩; refine ⟨_, rfl, ?_⟩; have n0_ := Aside0.mk (below_step (by repeat (first | (with_reducible first | exact HB.out | apply below_alloc | apply pw_below_drewN | apply below_drew1) | exact HB.out)) hb); clear HB; have HB := n0_; clear n0_; (try clear hb); (try clear hb2); (try clear hk); (try clear hi)) | (go_at_call 18; (with_reducible refine (names_Match.calls kj31 (⟨#[37]⟩ : ByteArray) a2 t168 _ A50.out).mono ?_); rintro e w62 ⟨rfl, hb⟩; have n0_ := Aside0.mk (below_step (by repeat (first | (with_reducible first | exact HB.out | apply below_alloc | apply pw_below_drewN | apply below_drew1) | exact HB.out)) hb); clear HB; have HB := n0_; clear n0_; (try clear hb); (try clear hb2); (try clear hk); (try clear hi)) | (go_at_call 18; (with_reducible refine (names_Match.calls kj31 (a0 ++ (⟨#[42]⟩ : ByteArray)) a2 false _ A55.out).mono ?_); rintro e w63 ⟨rfl, hb⟩; have n0_ := Aside0.mk (below_step (by repeat (first | (with_reducible first | exact HB.out | apply below_alloc | apply pw_below_drewN | apply below_drew1) | exact HB.out)) hb); clear HB; have HB := n0_; clear n0_; (try clear hb); (try clear hb2); (try clear hk); (try clear hi)) | (go_at_call 18; (with_reducible refine (names_Match.calls kj31 a0 a2 t170 _ A60.out).mono ?_); rintro e w64 ⟨rfl, hb⟩; have n0_ := Aside0.mk (below_step (by repeat (first | (with_reducible first | exact HB.out | apply below_alloc | apply pw_below_drewN | apply below_drew1) | exact HB.out)) hb); clear HB; have HB := n0_; clear n0_; (try clear hb); (try clear hb2); (try clear hk); (try clear hi)))
                  go_meet
                  case rel => exact ⟨_, (t170), (by first | with_reducible rfl | (simp only [pps, Nat.reduceAdd]; done) | rfl | (simp; done) | (simp [*]; done)), H', ⟨by have := HJ4.out; have := HK2.out; have := HJ26.out; have := HJ31.out; first | omega | exact Nat.le_refl _⟩, ⟨by repeat (first | (with_reducible first | exact HB.out | apply below_alloc | apply pw_below_drewN | apply below_drew1) | exact HB.out)⟩⟩
                ·
                 rw [if_neg c54] at H
                 exact absurd H (by simp)
              ·
               replace c49 := Bool.eq_false_iff.mpr c49
               subst c49
               have H1 : (haversacklaw07_NamesStars.j4 kj31 a0 a1 a2 true) = some r := by rw [if_neg (show ¬ (false = true) by decide)] at H; exact H
               clear H
               have H := H1
               clear H1
               have H' := Aside0.mk H
               clear H
               go_wp2_with (first | ((with_reducible refine gate_callee (f := 18) rfl ?_); refine goesL_ (some 87) rfl rfl Tryd.func18 (by kernel_rfl) rfl #[.string (⟨#[42]⟩ : ByteArray), .string a2] rfl (by (try simp only [List.map_toArray, List.map_cons, List.map_nil]); first | done | rfl | (simp only [List.length_drop, List.length_take]; rfl)) ?_; (with_reducible refine (names_Match.calls kj31 (⟨#[42]⟩ : ByteArray) a2 false _ A48.out).mono ?_); rintro e w65 ⟨rfl, hb⟩; refine ⟨_, rfl, ?_⟩; have n0_ := Aside0.mk (below_step (by repeat (first | (with_reducible first | exact HB.out | apply below_alloc | apply pw_below_drewN | apply below_drew1) | exact HB.out)) hb); clear HB; have HB := n0_; clear n0_; (try clear hb); (try clear hb2); (try clear hk); (try clear hi)))
               go_meet
               case rel => exact ⟨_, (true), (by first | with_reducible rfl | (simp only [pps, Nat.reduceAdd]; done) | rfl | (simp; done) | (simp [*]; done)), H', ⟨by have := HJ4.out; have := HK2.out; have := HJ26.out; have := HJ31.out; first | omega | exact Nat.le_refl _⟩, ⟨by repeat (first | (with_reducible first | exact HB.out | apply below_alloc | apply pw_below_drewN | apply below_drew1) | exact HB.out)⟩⟩
             case rest =>
              clear HC47
              try clear c1
              try clear p1
              try clear q1
              try clear hx1
              try clear c2
              try clear p2
              try clear q2
              try clear hx2
              try clear c3
              try clear c4
              try clear c5
              try clear c6
              try clear c6b0
              try clear c6b1
              try clear p6
              try clear c7
              try clear c7b0
              try clear c7b1
              try clear c8
              try clear c8b0
              try clear c8b1
              try clear c9
              try clear c10
              try clear c12
              try clear c12b0
              try clear c13
              try clear c14
              try clear c15
              try clear c15b0
              try clear c16
              try clear c16b0
              try clear p17
              try clear q17
              try clear hx17
              try clear c18
              try clear c18b0
              try clear c19
              try clear c19b0
              try clear p20
              try clear q20
              try clear hx20
              try clear c21
              try clear c21b0
              try clear c21b1
              try clear c22
              try clear p23
              try clear q23
              try clear hx23
              try clear p24
              try clear q24
              try clear hx24
              try clear c25
              try clear p26
              try clear q26
              try clear hx26
              try clear c28
              try clear c31
              try clear c34
              try clear c36
              try clear c37
              try clear c37b0
              try clear c37b1
              try clear c37b2
              try clear c38
              try clear c38b0
              try clear c38b1
              try clear c38b2
              try clear c46
              try clear c49
              try clear c51
              try clear c51b0
              try clear c51b1
              try clear c51b2
              try clear c54
              try clear c54b0
              try clear c54b1
              try clear c54b2
              try clear c56
              try clear p64
              try clear p1
              try clear p17
              try clear p2
              try clear p20
              try clear p23
              try clear p24
              try clear p26
              try clear p6
              try clear q1
              try clear q17
              try clear q2
              try clear q20
              try clear q23
              try clear q24
              try clear q26
              obtain ⟨kq, x107_46, rfl, HA, HJ46, HB⟩ := hcut
              cases kq with
              | zero => exact absurd HA.out (by simp [haversacklaw07_NamesStars.j4])
              | succ kj46 =>
               have H := HA.out
               clear HA
               simp only [haversacklaw07_NamesStars.j4] at H
               by_cases c66 : x107_46 = true
               ·
                subst c66
                have H1 : (some false) = some r := by rw [if_pos rfl] at H; exact H
                clear H
                have H := H1
                clear H1
                obtain rfl := Option.some.inj H
                go_wp2
                go_ret
                exact ⟨by first | rfl | (simp [errW_none, errW_some] <;> rfl) | (simp [*, errW_none, errW_some] <;> rfl), by repeat (first | (with_reducible first | exact HB.out | apply below_alloc | apply pw_below_drewN | apply below_drew1) | exact HB.out)⟩
               ·
                replace c66 := Bool.eq_false_iff.mpr c66
                subst c66
                have H1 : (if a0.size + 2 ≤ 9223372036854775807 then (if a0.size + 2 + a1.size ≤ 9223372036854775807 then ((names_Match.f kj46 ((a0 ++ (⟨#[42, 42]⟩ : ByteArray)) ++ a1) a2).bind fun t171 => (if a0.size + 1 ≤ 9223372036854775807 then (if a0.size + 1 + a1.size ≤ 9223372036854775807 then ((names_Match.f kj46 ((a0 ++ (⟨#[42]⟩ : ByteArray)) ++ a1) a2).bind fun t172 => (if (t171 == t172) = true then ((names_Match.f kj46 ((a0 ++ (⟨#[37, 42]⟩ : ByteArray)) ++ a1) a2).bind fun t173 => ((names_Match.f kj46 ((a0 ++ (⟨#[42]⟩ : ByteArray)) ++ a1) a2).bind fun t174 => (if (t173 == t174) = true then ((names_Match.f kj46 ((a0 ++ (⟨#[37, 37]⟩ : ByteArray)) ++ a1) a2).bind fun t175 => ((names_Match.f kj46 ((a0 ++ (⟨#[37]⟩ : ByteArray)) ++ a1) a2).bind fun t176 => (if (t175 == t176) = true then ((haversacklaw07_alive.f kj46).bind fun t177 => (some t177)) else (some false)))) else (some false)))) else (some false))) else (none)) else (none))) else (none)) else (none)) = some r := by rw [if_neg (show ¬ (false = true) by decide)] at H; exact H
                clear H
                have H := H1
                clear H1
                by_cases c67 : a0.size + 2 ≤ 9223372036854775807
                ·
                 rw [if_pos c67] at H
                 have c67b0 := eq_true c67
                 have c67b1 : decide (a0.size + 2 ≤ 9223372036854775807) = true := decide_eq_true c67
                 try have c67b2 : (9223372036854775807 < a0.size + 2) = False := eq_false (Nat.not_lt.2 c67)
                 by_cases c68 : a0.size + 2 + a1.size ≤ 9223372036854775807
                 ·
                  rw [if_pos c68] at H
                  have c68b0 := eq_true c68
                  have c68b1 : decide (a0.size + 2 + a1.size ≤ 9223372036854775807) = true := decide_eq_true c68
                  try have c68b2 : (9223372036854775807 < a0.size + 2 + a1.size) = False := eq_false (Nat.not_lt.2 c68)
                  replace H := Option.bind_eq_some_iff.mp H
                  obtain ⟨t171, A690, H⟩ := H
                  replace H : (if a0.size + 1 ≤ 9223372036854775807 then (if a0.size + 1 + a1.size ≤ 9223372036854775807 then ((names_Match.f kj46 ((a0 ++ (⟨#[42]⟩ : ByteArray)) ++ a1) a2).bind fun t172 => (if (t171 == t172) = true then ((names_Match.f kj46 ((a0 ++ (⟨#[37, 42]⟩ : ByteArray)) ++ a1) a2).bind fun t173 => ((names_Match.f kj46 ((a0 ++ (⟨#[42]⟩ : ByteArray)) ++ a1) a2).bind fun t174 => (if (t173 == t174) = true then ((names_Match.f kj46 ((a0 ++ (⟨#[37, 37]⟩ : ByteArray)) ++ a1) a2).bind fun t175 => ((names_Match.f kj46 ((a0 ++ (⟨#[37]⟩ : ByteArray)) ++ a1) a2).bind fun t176 => (if (t175 == t176) = true then ((haversacklaw07_alive.f kj46).bind fun t177 => (some t177)) else (some false)))) else (some false)))) else (some false))) else (none)) else (none)) = some r := H
                  have A69 := Aside0.mk A690
                  clear A690
                  by_cases c70 : a0.size + 1 ≤ 9223372036854775807
                  ·
                   rw [if_pos c70] at H
                   have c70b0 := eq_true c70
                   have c70b1 : decide (a0.size + 1 ≤ 9223372036854775807) = true := decide_eq_true c70
                   try have c70b2 : (9223372036854775807 < a0.size + 1) = False := eq_false (Nat.not_lt.2 c70)
                   by_cases c71 : a0.size + 1 + a1.size ≤ 9223372036854775807
                   ·
                    rw [if_pos c71] at H
                    have c71b0 := eq_true c71
                    have c71b1 : decide (a0.size + 1 + a1.size ≤ 9223372036854775807) = true := decide_eq_true c71
                    try have c71b2 : (9223372036854775807 < a0.size + 1 + a1.size) = False := eq_false (Nat.not_lt.2 c71)
                    replace H := Option.bind_eq_some_iff.mp H
                    obtain ⟨t172, A720, H⟩ := H
                    replace H : (if (t171 == t172) = true then ((names_Match.f kj46 ((a0 ++ (⟨#[37, 42]⟩ : ByteArray)) ++ a1) a2).bind fun t173 => ((names_Match.f kj46 ((a0 ++ (⟨#[42]⟩ : ByteArray)) ++ a1) a2).bind fun t174 => (if (t173 == t174) = true then ((names_Match.f kj46 ((a0 ++ (⟨#[37, 37]⟩ : ByteArray)) ++ a1) a2).bind fun t175 => ((names_Match.f kj46 ((a0 ++ (⟨#[37]⟩ : ByteArray)) ++ a1) a2).bind fun t176 => (if (t175 == t176) = true then ((haversacklaw07_alive.f kj46).bind fun t177 => (some t177)) else (some false)))) else (some false)))) else (some false)) = some r := H
                    have A72 := Aside0.mk A720
                    clear A720
                    by_cases c73 : (t171 == t172) = true
                    ·
                     rw [if_pos c73] at H
                     have c73b0 : (t171 == t172) = true := c73
                     (try (have c73b1 : decide (t171 = t172) = true := by simpa using c73))
                     (try (have c73b2 : (t171 == t172) = true := by simpa using c73))
                     clear c73
                     replace H := Option.bind_eq_some_iff.mp H
                     obtain ⟨t173, A740, H⟩ := H
                     replace H : ((names_Match.f kj46 ((a0 ++ (⟨#[42]⟩ : ByteArray)) ++ a1) a2).bind fun t174 => (if (t173 == t174) = true then ((names_Match.f kj46 ((a0 ++ (⟨#[37, 37]⟩ : ByteArray)) ++ a1) a2).bind fun t175 => ((names_Match.f kj46 ((a0 ++ (⟨#[37]⟩ : ByteArray)) ++ a1) a2).bind fun t176 => (if (t175 == t176) = true then ((haversacklaw07_alive.f kj46).bind fun t177 => (some t177)) else (some false)))) else (some false))) = some r := H
                     have A74 := Aside0.mk A740
                     clear A740
                     replace H := Option.bind_eq_some_iff.mp H
                     obtain ⟨t174, A750, H⟩ := H
                     replace H : (if (t173 == t174) = true then ((names_Match.f kj46 ((a0 ++ (⟨#[37, 37]⟩ : ByteArray)) ++ a1) a2).bind fun t175 => ((names_Match.f kj46 ((a0 ++ (⟨#[37]⟩ : ByteArray)) ++ a1) a2).bind fun t176 => (if (t175 == t176) = true then ((haversacklaw07_alive.f kj46).bind fun t177 => (some t177)) else (some false)))) else (some false)) = some r := H
                     have A75 := Aside0.mk A750
                     clear A750
                     by_cases c76 : (t173 == t174) = true
                     ·
                      rw [if_pos c76] at H
                      have c76b0 : (t173 == t174) = true := c76
                      (try (have c76b1 : decide (t173 = t174) = true := by simpa using c76))
                      (try (have c76b2 : (t173 == t174) = true := by simpa using c76))
                      clear c76
                      replace H := Option.bind_eq_some_iff.mp H
                      obtain ⟨t175, A770, H⟩ := H
                      replace H : ((names_Match.f kj46 ((a0 ++ (⟨#[37]⟩ : ByteArray)) ++ a1) a2).bind fun t176 => (if (t175 == t176) = true then ((haversacklaw07_alive.f kj46).bind fun t177 => (some t177)) else (some false))) = some r := H
                      have A77 := Aside0.mk A770
                      clear A770
                      replace H := Option.bind_eq_some_iff.mp H
                      obtain ⟨t176, A780, H⟩ := H
                      replace H : (if (t175 == t176) = true then ((haversacklaw07_alive.f kj46).bind fun t177 => (some t177)) else (some false)) = some r := H
                      have A78 := Aside0.mk A780
                      clear A780
                      by_cases c79 : (t175 == t176) = true
                      ·
                       rw [if_pos c79] at H
                       have c79b0 : (t175 == t176) = true := c79
                       (try (have c79b1 : decide (t175 = t176) = true := by simpa using c79))
                       (try (have c79b2 : (t175 == t176) = true := by simpa using c79))
                       clear c79
                       replace H := Option.bind_eq_some_iff.mp H
                       obtain ⟨t177, A800, H⟩ := H
                       replace H : (some t177) = some r := H
                       have A80 := Aside0.mk A800
                       clear A800
                       obtain rfl := Option.some.inj H
                       go_wp2_with (first | ((with_reducible refine gate_callee (f := 18) rfl ?_); refine goesL_ (some 113) rfl rfl Tryd.func18 (by kernel_rfl) rfl #[.string ((a0 ++ (⟨#[42, 42]⟩ : ByteArray)) ++ a1), .string a2] rfl (by (try simp only [List.map_toArray, List.map_cons, List.map_nil]); first | done | rfl | (simp only [List.length_drop, List.length_take]; rfl)) ?_; (with_reducible refine (names_Match.calls kj46 ((a0 ++ (⟨#[42, 42]⟩ : ByteArray)) ++ a1) a2 t171 _ A69.out).mono ?_); rintro e w81 ⟨rfl, hb⟩; refine ⟨_, rfl, ?_⟩; have n0_ := Aside0.mk (below_step (by repeat (first | (with_reducible first | exact HB.out | apply below_alloc | apply pw_below_drewN | apply below_drew1) | exact HB.out)) hb); clear HB; have HB := n0_; clear n0_; (try clear hb); (try clear hb2); (try clear hk); (try clear hi)) | ((with_reducible refine gate_callee (f := 18) rfl ?_); refine goesL_ (some 119) rfl rfl Tryd.func18 (by kernel_rfl) rfl #[.string ((a0 ++ (⟨#[42]⟩ : ByteArray)) ++ a1), .string a2] rfl (by (try simp only [List.map_toArray, List.map_cons, List.map_nil]); first | done | rfl | (simp only [List.length_drop, List.length_take]; rfl)) ?_; (with_reducible refine (names_Match.calls kj46 ((a0 ++ (⟨#[42]⟩ : ByteArray)) ++ a1) a2 t172 _ A72.out).mono ?_); rintro e w82 ⟨rfl, hb⟩; refine ⟨_, rfl, ?_⟩; have n0_ := Aside0.mk (below_step (by repeat (first | (with_reducible first | exact HB.out | apply below_alloc | apply pw_below_drewN | apply below_drew1) | exact HB.out)) hb); clear HB; have HB := n0_; clear n0_; (try clear hb); (try clear hb2); (try clear hk); (try clear hi)) | (go_at_call 18; (with_reducible refine (names_Match.calls kj46 ((a0 ++ (⟨#[37, 42]⟩ : ByteArray)) ++ a1) a2 t173 _ A74.out).mono ?_); rintro e w83 ⟨rfl, hb⟩; have n0_ := Aside0.mk (below_step (by repeat (first | (with_reducible first | exact HB.out | apply below_alloc | apply pw_below_drewN | apply below_drew1) | exact HB.out)) hb); clear HB; have HB := n0_; clear n0_; (try clear hb); (try clear hb2); (try clear hk); (try clear hi)) | (go_at_call 18; (with_reducible refine (names_Match.calls kj46 ((a0 ++ (⟨#[42]⟩ : ByteArray)) ++ a1) a2 t174 _ A75.out).mono ?_); rintro e w84 ⟨rfl, hb⟩; have n0_ := Aside0.mk (below_step (by repeat (first | (with_reducible first | exact HB.out | apply below_alloc | apply pw_below_drewN | apply below_drew1) | exact HB.out)) hb); clear HB; have HB := n0_; clear n0_; (try clear hb); (try clear hb2); (try clear hk); (try clear hi)) | (go_at_call 18; (with_reducible refine (names_Match.calls kj46 ((a0 ++ (⟨#[37, 37]⟩ : ByteArray)) ++ a1) a2 t175 _ A77.out).mono ?_); rintro e w85 ⟨rfl, hb⟩; have n0_ := Aside0.mk (below_step (by repeat (first | (with_reducible first | exact HB.out | apply below_alloc | apply pw_below_drewN | apply below_drew1) | exact HB.out)) hb); clear HB; have HB := n0_; clear n0_; (try clear hb); (try clear hb2); (try clear hk); (try clear hi)) | (go_at_call 18; (with_reducible refine (names_Match.calls kj46 ((a0 ++ (⟨#[37]⟩ : ByteArray)) ++ a1) a2 t176 _ A78.out).mono ?_); rintro e w86 ⟨rfl, hb⟩; have n0_ := Aside0.mk (below_step (by repeat (first | (with_reducible first | exact HB.out | apply below_alloc | apply pw_below_drewN | apply below_drew1) | exact HB.out)) hb); clear HB; have HB := n0_; clear n0_; (try clear hb); (try clear hb2); (try clear hk); (try clear hi)) | (go_at_call 10; (with_reducible refine (haversacklaw07_alive.calls kj46  t177 _ A80.out (Tabs.below HT.out (by repeat (first | (with_reducible first | exact HB.out | apply below_alloc | apply pw_below_drewN | apply below_drew1) | exact HB.out)))).mono ?_); rintro e w87 ⟨rfl, hb⟩; have n0_ := Aside0.mk (below_step (by repeat (first | (with_reducible first | exact HB.out | apply below_alloc | apply pw_below_drewN | apply below_drew1) | exact HB.out)) hb); clear HB; have HB := n0_; clear n0_; (try clear hb); (try clear hb2); (try clear hk); (try clear hi)))
                       go_ret
                       exact ⟨by first | rfl | (simp [errW_none, errW_some] <;> rfl) | (simp [*, errW_none, errW_some] <;> rfl), by repeat (first | (with_reducible first | exact HB.out | apply below_alloc | apply pw_below_drewN | apply below_drew1) | exact HB.out)⟩
                      ·
                       rw [if_neg c79] at H
                       have c79b0 : (t175 == t176) = false := by simpa using c79
                       (try (have c79b1 : decide (t175 = t176) = false := by simpa using c79))
                       (try (have c79b2 : (t175 == t176) = false := by simpa using c79))
                       (try (have c79b3 : ¬ (t175 = t176) := by simpa using c79))
                       clear c79
                       obtain rfl := Option.some.inj H
                       go_wp2_with (first | ((with_reducible refine gate_callee (f := 18) rfl ?_); refine goesL_ (some 113) rfl rfl Tryd.func18 (by kernel_rfl) rfl #[.string ((a0 ++ (⟨#[42, 42]⟩ : ByteArray)) ++ a1), .string a2] rfl (by (try simp only [List.map_toArray, List.map_cons, List.map_nil]); first | done | rfl | (simp only [List.length_drop, List.length_take]; rfl)) ?_; (with_reducible refine (names_Match.calls kj46 ((a0 ++ (⟨#[42, 42]⟩ : ByteArray)) ++ a1) a2 t171 _ A69.out).mono ?_); rintro e w88 ⟨rfl, hb⟩; refine ⟨_, rfl, ?_⟩; have n0_ := Aside0.mk (below_step (by repeat (first | (with_reducible first | exact HB.out | apply below_alloc | apply pw_below_drewN | apply below_drew1) | exact HB.out)) hb); clear HB; have HB := n0_; clear n0_; (try clear hb); (try clear hb2); (try clear hk); (try clear hi)) | ((with_reducible refine gate_callee (f := 18) rfl ?_); refine goesL_ (some 119) rfl rfl Tryd.func18 (by kernel_rfl) rfl #[.string ((a0 ++ (⟨#[42]⟩ : ByteArray)) ++ a1), .string a2] rfl (by (try simp only [List.map_toArray, List.map_cons, List.map_nil]); first | done | rfl | (simp only [List.length_drop, List.length_take]; rfl)) ?_; (with_reducible refine (names_Match.calls kj46 ((a0 ++ (⟨#[42]⟩ : ByteArray)) ++ a1) a2 t172 _ A72.out).mono ?_); rintro e w89 ⟨rfl, hb⟩; refine ⟨_, rfl, ?_⟩; have n0_ := Aside0.mk (below_step (by repeat (first | (with_reducible first | exact HB.out | apply below_alloc | apply pw_below_drewN | apply below_drew1) | exact HB.out)) hb); clear HB; have HB := n0_; clear n0_; (try clear hb); (try clear hb2); (try clear hk); (try clear hi)) | (go_at_call 18; (with_reducible refine (names_Match.calls kj46 ((a0 ++ (⟨#[37, 42]⟩ : ByteArray)) ++ a1) a2 t173 _ A74.out).mono ?_); rintro e w90 ⟨rfl, hb⟩; have n0_ := Aside0.mk (below_step (by repeat (first | (with_reducible first | exact HB.out | apply below_alloc | apply pw_below_drewN | apply below_drew1) | exact HB.out)) hb); clear HB; have HB := n0_; clear n0_; (try clear hb); (try clear hb2); (try clear hk); (try clear hi)) | (go_at_call 18; (with_reducible refine (names_Match.calls kj46 ((a0 ++ (⟨#[42]⟩ : ByteArray)) ++ a1) a2 t174 _ A75.out).mono ?_); rintro e w91 ⟨rfl, hb⟩; have n0_ := Aside0.mk (below_step (by repeat (first | (with_reducible first | exact HB.out | apply below_alloc | apply pw_below_drewN | apply below_drew1) | exact HB.out)) hb); clear HB; have HB := n0_; clear n0_; (try clear hb); (try clear hb2); (try clear hk); (try clear hi)) | (go_at_call 18; (with_reducible refine (names_Match.calls kj46 ((a0 ++ (⟨#[37, 37]⟩ : ByteArray)) ++ a1) a2 t175 _ A77.out).mono ?_); rintro e w92 ⟨rfl, hb⟩; have n0_ := Aside0.mk (below_step (by repeat (first | (with_reducible first | exact HB.out | apply below_alloc | apply pw_below_drewN | apply below_drew1) | exact HB.out)) hb); clear HB; have HB := n0_; clear n0_; (try clear hb); (try clear hb2); (try clear hk); (try clear hi)) | (go_at_call 18; (with_reducible refine (names_Match.calls kj46 ((a0 ++ (⟨#[37]⟩ : ByteArray)) ++ a1) a2 t176 _ A78.out).mono ?_); rintro e w93 ⟨rfl, hb⟩; have n0_ := Aside0.mk (below_step (by repeat (first | (with_reducible first | exact HB.out | apply below_alloc | apply pw_below_drewN | apply below_drew1) | exact HB.out)) hb); clear HB; have HB := n0_; clear n0_; (try clear hb); (try clear hb2); (try clear hk); (try clear hi)))
                       go_ret
                       exact ⟨by first | rfl | (simp [errW_none, errW_some] <;> rfl) | (simp [*, errW_none, errW_some] <;> rfl), by repeat (first | (with_reducible first | exact HB.out | apply below_alloc | apply pw_below_drewN | apply below_drew1) | exact HB.out)⟩
                     ·
                      rw [if_neg c76] at H
                      have c76b0 : (t173 == t174) = false := by simpa using c76
                      (try (have c76b1 : decide (t173 = t174) = false := by simpa using c76))
                      (try (have c76b2 : (t173 == t174) = false := by simpa using c76))
                      (try (have c76b3 : ¬ (t173 = t174) := by simpa using c76))
                      clear c76
                      obtain rfl := Option.some.inj H
                      go_wp2_with (first | ((with_reducible refine gate_callee (f := 18) rfl ?_); refine goesL_ (some 113) rfl rfl Tryd.func18 (by kernel_rfl) rfl #[.string ((a0 ++ (⟨#[42, 42]⟩ : ByteArray)) ++ a1), .string a2] rfl (by (try simp only [List.map_toArray, List.map_cons, List.map_nil]); first | done | rfl | (simp only [List.length_drop, List.length_take]; rfl)) ?_; (with_reducible refine (names_Match.calls kj46 ((a0 ++ (⟨#[42, 42]⟩ : ByteArray)) ++ a1) a2 t171 _ A69.out).mono ?_); rintro e w94 ⟨rfl, hb⟩; refine ⟨_, rfl, ?_⟩; have n0_ := Aside0.mk (below_step (by repeat (first | (with_reducible first | exact HB.out | apply below_alloc | apply pw_below_drewN | apply below_drew1) | exact HB.out)) hb); clear HB; have HB := n0_; clear n0_; (try clear hb); (try clear hb2); (try clear hk); (try clear hi)) | ((with_reducible refine gate_callee (f := 18) rfl ?_); refine goesL_ (some 119) rfl rfl Tryd.func18 (by kernel_rfl) rfl #[.string ((a0 ++ (⟨#[42]⟩ : ByteArray)) ++ a1), .string a2] rfl (by (try simp only [List.map_toArray, List.map_cons, List.map_nil]); first | done | rfl | (simp only [List.length_drop, List.length_take]; rfl)) ?_; (with_reducible refine (names_Match.calls kj46 ((a0 ++ (⟨#[42]⟩ : ByteArray)) ++ a1) a2 t172 _ A72.out).mono ?_); rintro e w95 ⟨rfl, hb⟩; refine ⟨_, rfl, ?_⟩; have n0_ := Aside0.mk (below_step (by repeat (first | (with_reducible first | exact HB.out | apply below_alloc | apply pw_below_drewN | apply below_drew1) | exact HB.out)) hb); clear HB; have HB := n0_; clear n0_; (try clear hb); (try clear hb2); (try clear hk); (try clear hi)) | (go_at_call 18; (with_reducible refine (names_Match.calls kj46 ((a0 ++ (⟨#[37, 42]⟩ : ByteArray)) ++ a1) a2 t173 _ A74.out).mono ?_); rintro e w96 ⟨rfl, hb⟩; have n0_ := Aside0.mk (below_step (by repeat (first | (with_reducible first | exact HB.out | apply below_alloc | apply pw_below_drewN | apply below_drew1) | exact HB.out)) hb); clear HB; have HB := n0_; clear n0_; (try clear hb); (try clear hb2); (try clear hk); (try clear hi)) | (go_at_call 18; (with_reducible refine (names_Match.calls kj46 ((a0 ++ (⟨#[42]⟩ : ByteArray)) ++ a1) a2 t174 _ A75.out).mono ?_); rintro e w97 ⟨rfl, hb⟩; have n0_ := Aside0.mk (below_step (by repeat (first | (with_reducible first | exact HB.out | apply below_alloc | apply pw_below_drewN | apply below_drew1) | exact HB.out)) hb); clear HB; have HB := n0_; clear n0_; (try clear hb); (try clear hb2); (try clear hk); (try clear hi)))
                      go_ret
                      exact ⟨by first | rfl | (simp [errW_none, errW_some] <;> rfl) | (simp [*, errW_none, errW_some] <;> rfl), by repeat (first | (with_reducible first | exact HB.out | apply below_alloc | apply pw_below_drewN | apply below_drew1) | exact HB.out)⟩
                    ·
                     rw [if_neg c73] at H
                     have c73b0 : (t171 == t172) = false := by simpa using c73
                     (try (have c73b1 : decide (t171 = t172) = false := by simpa using c73))
                     (try (have c73b2 : (t171 == t172) = false := by simpa using c73))
                     (try (have c73b3 : ¬ (t171 = t172) := by simpa using c73))
                     clear c73
                     obtain rfl := Option.some.inj H
                     go_wp2_with (first | ((with_reducible refine gate_callee (f := 18) rfl ?_); refine goesL_ (some 113) rfl rfl Tryd.func18 (by kernel_rfl) rfl #[.string ((a0 ++ (⟨#[42, 42]⟩ : ByteArray)) ++ a1), .string a2] rfl (by (try simp only [List.map_toArray, List.map_cons, List.map_nil]); first | done | rfl | (simp only [List.length_drop, List.length_take]; rfl)) ?_; (with_reducible refine (names_Match.calls kj46 ((a0 ++ (⟨#[42, 42]⟩ : ByteArray)) ++ a1) a2 t171 _ A69.out).mono ?_); rintro e w98 ⟨rfl, hb⟩; refine ⟨_, rfl, ?_⟩; have n0_ := Aside0.mk (below_step (by repeat (first | (with_reducible first | exact HB.out | apply below_alloc | apply pw_below_drewN | apply below_drew1) | exact HB.out)) hb); clear HB; have HB := n0_; clear n0_; (try clear hb); (try clear hb2); (try clear hk); (try clear hi)) | ((with_reducible refine gate_callee (f := 18) rfl ?_); refine goesL_ (some 119) rfl rfl Tryd.func18 (by kernel_rfl) rfl #[.string ((a0 ++ (⟨#[42]⟩ : ByteArray)) ++ a1), .string a2] rfl (by (try simp only [List.map_toArray, List.map_cons, List.map_nil]); first | done | rfl | (simp only [List.length_drop, List.length_take]; rfl)) ?_; (with_reducible refine (names_Match.calls kj46 ((a0 ++ (⟨#[42]⟩ : ByteArray)) ++ a1) a2 t172 _ A72.out).mono ?_); rintro e w99 ⟨rfl, hb⟩; refine ⟨_, rfl, ?_⟩; have n0_ := Aside0.mk (below_step (by repeat (first | (with_reducible first | exact HB.out | apply below_alloc | apply pw_below_drewN | apply below_drew1) | exact HB.out)) hb); clear HB; have HB := n0_; clear n0_; (try clear hb); (try clear hb2); (try clear hk); (try clear hi)))
                     go_ret
                     exact ⟨by first | rfl | (simp [errW_none, errW_some] <;> rfl) | (simp [*, errW_none, errW_some] <;> rfl), by repeat (first | (with_reducible first | exact HB.out | apply below_alloc | apply pw_below_drewN | apply below_drew1) | exact HB.out)⟩
                   ·
                    rw [if_neg c71] at H
                    exact absurd H (by simp)
                  ·
                   rw [if_neg c70] at H
                   exact absurd H (by simp)
                 ·
                  rw [if_neg c68] at H
                  exact absurd H (by simp)
                ·
                 rw [if_neg c67] at H
                 exact absurd H (by simp)

/-- THE ONE PURE STATEMENT of haversacklaw07_NamesStars: yours. -/
def haversacklaw07_NamesStars.Pure : Prop := ∀ (a0 : ByteArray) (a1 : ByteArray) (a2 : ByteArray) (a3 : ByteArray), a0.size ≤ 140737488351232 → a1.size ≤ 140737488351232 → a2.size ≤ 140737488351232 → a3.size ≤ 140737488351232 → ∃ k, haversacklaw07_NamesStars.f k a0 a1 a2 a3 = some true
theorem haversacklaw07_NamesStars.walk (P : haversacklaw07_NamesStars.Pure) (a0 : ByteArray) (a1 : ByteArray) (a2 : ByteArray) (a3 : ByteArray) (w : World) (w0 : a0.size ≤ 140737488351232) (w1 : a1.size ≤ 140737488351232) (w2 : a2.size ≤ 140737488351232) (w3 : a3.size ≤ 140737488351232) (hT : Tabs w) :
  Calls Tryd.prog 7 #[.string a0, .string a1, .string a2, .string a3] w fun e w' => e = .returned (.bool true) ∧ Below w.heap.size w w' := by
 obtain ⟨k, h⟩ := P a0 a1 a2 a3 w0 w1 w2 w3
 refine (haversacklaw07_NamesStars.calls k a0 a1 a2 a3 true w h hT).mono ?_
 rintro e w' ⟨rfl, hd⟩
 exact ⟨rfl, hd⟩

end Go.Proofs.YtnkibbfpmhgeaaaDoor.PP
