-- PRINTED by print.py (a twelfth state) out of the translation. Not trusted: Lean checks it.
import Derived.Test.YtooknjpdflokkaaPPx0
import Derived.Test.YtooknjpdflokkaaPPx2
import Derived.Test.YtooknjpdflokkaaPPx6
import Derived.Test.YtooknjpdflokkaaPPx15
namespace Go.Proofs.Ytooknjpdflokkaa.PP
open Go.RowKit Go.Proofs.YtooknjpdflokkaaW.PrintWords Go.Proofs.YtooknjpdflokkaaW.PrintLast Go.Proofs.YtooknjpdflokkaaW.PrintMore
attribute [local go_sem] max2_int min2_int max_two min_two max_three min_three max_four min_four   -- for this text's walks alone
open Go.Proofs.Ytooknjpdflokkaa.My
set_option linter.unusedVariables false
set_option linter.unusedSimpArgs false

/-! ### haversacklaw09_DateTurns: function 6 -/
mutual
def haversacklaw09_DateTurns.j1 : Nat → Int → Option (Bool)
  | 0, _ => none
  | k + 1, x3 => (date_Civil.f k x3).bind fun bt318 => (if bt318.1 = 0 then (if (wrap64 (bt318.2.1 + bt318.2.2)) = 0 then ((haversacklaw09_alive.f k).bind fun t321 => (some t321)) else (some false)) else ((date_Days.f k bt318.1 bt318.2.1 bt318.2.2).bind fun t322 => (if t322 = x3 then ((date_Right.f k bt318.1 bt318.2.1 bt318.2.2 0 0 0 0).bind fun t323 => (if t323 = true then ((haversacklaw09_alive.f k).bind fun t324 => (some t324)) else (some false))) else (some false))))
def haversacklaw09_DateTurns.j0 : Nat → Int → Int → Int → Int → Int → Bool → Option (Bool)
  | 0, _, _, _, _, _, _ => none
  | k + 1, x0, x1, x2, x3, x9, x43 => if x43 = true then (some false) else ((date_Right.f k x0 x1 (wrap64 (x2 + 1)) 0 0 0 0).bind fun t316 => (if t316 = true then ((date_Days.f k x0 x1 (wrap64 (x2 + 1))).bind fun t317 => (if t317 = (wrap64 (x9 + 1)) then (haversacklaw09_DateTurns.j1 k x3) else (some false))) else (haversacklaw09_DateTurns.j1 k x3)))
end
def haversacklaw09_DateTurns.f (k : Nat) (a0 : Int) (a1 : Int) (a2 : Int) (a3 : Int) : Option (Bool) := (date_Days.f k a0 a1 a2).bind fun t311 => ((date_Right.f k a0 a1 a2 0 0 0 0).bind fun t312 => (if t312 = true then ((date_Civil.f k t311).bind fun bt313 => (if bt313.1 = a0 then (if bt313.2.1 = a1 then (haversacklaw09_DateTurns.j0 k a0 a1 a2 a3 t311 (bt313.2.2 != a2)) else (haversacklaw09_DateTurns.j0 k a0 a1 a2 a3 t311 true)) else (haversacklaw09_DateTurns.j0 k a0 a1 a2 a3 t311 true))) else (if t311 = 0 then (haversacklaw09_DateTurns.j1 k a3) else (some false))))
theorem haversacklaw09_DateTurns.mono_l : ∀ k, (∀ y0, LeO (haversacklaw09_DateTurns.j1 k y0) (haversacklaw09_DateTurns.j1 (k + 1) y0)) ∧ (∀ y0 y1 y2 y3 y4 y5, LeO (haversacklaw09_DateTurns.j0 k y0 y1 y2 y3 y4 y5) (haversacklaw09_DateTurns.j0 (k + 1) y0 y1 y2 y3 y4 y5))
  | 0 => ⟨fun _ r h => by simp [haversacklaw09_DateTurns.j1] at h, fun _ _ _ _ _ _ r h => by simp [haversacklaw09_DateTurns.j0] at h⟩
  | k + 1 => by
    obtain ⟨ih0, ih1⟩ := haversacklaw09_DateTurns.mono_l k
    refine ⟨?_, ?_⟩
    · intro y0
      unfold haversacklaw09_DateTurns.j1
      repeat' first
      | (with_reducible exact ih0 _)
      | (with_reducible exact ih1 _ _ _ _ _ _)
      | (with_reducible exact date_Civil.mono _ _)
      | (with_reducible exact date_Days.mono _ _ _ _)
      | (with_reducible exact date_Right.mono _ _ _ _ _ _ _ _)
      | (with_reducible exact haversacklaw09_alive.mono _)
      | (with_reducible exact LeO.refl _)
      | (with_reducible exact LeO.none _)
      | (with_reducible refine LeO.ite ?_ ?_)
      | (with_reducible refine LeO.bind ?_ (fun _ => ?_))
      | exact ih0 _
      | exact ih1 _ _ _ _ _ _
      | exact date_Civil.mono _ _
      | exact date_Days.mono _ _ _ _
      | exact date_Right.mono _ _ _ _ _ _ _ _
      | exact haversacklaw09_alive.mono _
      | exact LeO.none _
      | refine LeO.ite ?_ ?_
      | refine LeO.bind ?_ (fun _ => ?_)
    · intro y0 y1 y2 y3 y4 y5
      unfold haversacklaw09_DateTurns.j0
      repeat' first
      | (with_reducible exact ih0 _)
      | (with_reducible exact ih1 _ _ _ _ _ _)
      | (with_reducible exact date_Civil.mono _ _)
      | (with_reducible exact date_Days.mono _ _ _ _)
      | (with_reducible exact date_Right.mono _ _ _ _ _ _ _ _)
      | (with_reducible exact haversacklaw09_alive.mono _)
      | (with_reducible exact LeO.refl _)
      | (with_reducible exact LeO.none _)
      | (with_reducible refine LeO.ite ?_ ?_)
      | (with_reducible refine LeO.bind ?_ (fun _ => ?_))
      | exact ih0 _
      | exact ih1 _ _ _ _ _ _
      | exact date_Civil.mono _ _
      | exact date_Days.mono _ _ _ _
      | exact date_Right.mono _ _ _ _ _ _ _ _
      | exact haversacklaw09_alive.mono _
      | exact LeO.none _
      | refine LeO.ite ?_ ?_
      | refine LeO.bind ?_ (fun _ => ?_)
theorem haversacklaw09_DateTurns.mono : ∀ a0 a1 a2 a3 k, LeO (haversacklaw09_DateTurns.f k a0 a1 a2 a3) (haversacklaw09_DateTurns.f (k + 1) a0 a1 a2 a3) := by
  intro a0 a1 a2 a3 k
  obtain ⟨ih0, ih1⟩ := haversacklaw09_DateTurns.mono_l k
  unfold haversacklaw09_DateTurns.f
  repeat' first
      | (with_reducible exact ih0 _)
      | (with_reducible exact ih1 _ _ _ _ _ _)
      | (with_reducible exact date_Civil.mono _ _)
      | (with_reducible exact date_Days.mono _ _ _ _)
      | (with_reducible exact date_Right.mono _ _ _ _ _ _ _ _)
      | (with_reducible exact haversacklaw09_alive.mono _)
      | (with_reducible exact LeO.refl _)
      | (with_reducible exact LeO.none _)
      | (with_reducible refine LeO.ite ?_ ?_)
      | (with_reducible refine LeO.bind ?_ (fun _ => ?_))
      | exact ih0 _
      | exact ih1 _ _ _ _ _ _
      | exact date_Civil.mono _ _
      | exact date_Days.mono _ _ _ _
      | exact date_Right.mono _ _ _ _ _ _ _ _
      | exact haversacklaw09_alive.mono _
      | exact LeO.none _
      | refine LeO.ite ?_ ?_
      | refine LeO.bind ?_ (fun _ => ?_)
set_option maxHeartbeats 8000000 in
set_option maxRecDepth 100000 in
theorem haversacklaw09_DateTurns.calls (k : Nat) (a0 : Int) (a1 : Int) (a2 : Int) (a3 : Int) (r : Bool) (w : World) (h : haversacklaw09_DateTurns.f k a0 a1 a2 a3 = some r) :
    Calls Try.prog 6 #[.int .i64 a0, .int .i64 a1, .int .i64 a2, .int .i64 a3] w fun e w' => e = .returned (.bool r) ∧ Below w.heap.size w w' := by
  have hu23 := Try.underlying23
  have HB := Aside0.mk (Below.refl w.heap.size w)
  have H : ((date_Days.f k a0 a1 a2).bind fun t311 => ((date_Right.f k a0 a1 a2 0 0 0 0).bind fun t312 => (if t312 = true then ((date_Civil.f k t311).bind fun bt313 => (if bt313.1 = a0 then (if bt313.2.1 = a1 then (haversacklaw09_DateTurns.j0 k a0 a1 a2 a3 t311 (bt313.2.2 != a2)) else (haversacklaw09_DateTurns.j0 k a0 a1 a2 a3 t311 true)) else (haversacklaw09_DateTurns.j0 k a0 a1 a2 a3 t311 true))) else (if t311 = 0 then (haversacklaw09_DateTurns.j1 k a3) else (some false))))) = some r := h
  clear h
  replace H := Option.bind_eq_some_iff.mp H
  obtain ⟨t311, A50, H⟩ := H
  replace H : ((date_Right.f k a0 a1 a2 0 0 0 0).bind fun t312 => (if t312 = true then ((date_Civil.f k t311).bind fun bt313 => (if bt313.1 = a0 then (if bt313.2.1 = a1 then (haversacklaw09_DateTurns.j0 k a0 a1 a2 a3 t311 (bt313.2.2 != a2)) else (haversacklaw09_DateTurns.j0 k a0 a1 a2 a3 t311 true)) else (haversacklaw09_DateTurns.j0 k a0 a1 a2 a3 t311 true))) else (if t311 = 0 then (haversacklaw09_DateTurns.j1 k a3) else (some false)))) = some r := H
  have A5 := Aside0.mk A50
  clear A50
  replace H := Option.bind_eq_some_iff.mp H
  obtain ⟨t312, A60, H⟩ := H
  replace H : (if t312 = true then ((date_Civil.f k t311).bind fun bt313 => (if bt313.1 = a0 then (if bt313.2.1 = a1 then (haversacklaw09_DateTurns.j0 k a0 a1 a2 a3 t311 (bt313.2.2 != a2)) else (haversacklaw09_DateTurns.j0 k a0 a1 a2 a3 t311 true)) else (haversacklaw09_DateTurns.j0 k a0 a1 a2 a3 t311 true))) else (if t311 = 0 then (haversacklaw09_DateTurns.j1 k a3) else (some false))) = some r := H
  have A6 := Aside0.mk A60
  clear A60
  have HC7 := Aside0.mk H
  clear H
  go_enter Try.func6, Try.ntmps6
  go_upto_if 24 with (first | ((with_reducible refine gate_callee (f := 20) rfl ?_); refine goesL_ (some 19) rfl rfl Try.func20 (by kernel_rfl) rfl #[.int .i64 a0, .int .i64 a1, .int .i64 a2] rfl (by (try simp only [List.map_toArray, List.map_cons, List.map_nil]); first | done | rfl | (simp only [List.length_drop, List.length_take]; rfl)) ?_; (with_reducible refine (date_Days.calls k a0 a1 a2 t311 _ A5.out).mono ?_); rintro e w' ⟨rfl, ⟨nd, rfl⟩⟩; refine ⟨_, rfl, ?_⟩) | ((with_reducible refine gate_callee (f := 16) rfl ?_); refine goesL_ (some 24) rfl rfl Try.func16 (by kernel_rfl) rfl #[.agg #[.int .i64 a0, .int .i64 a1, .int .i64 a2, .int .i64 0, .int .i64 0, .int .i64 0, .int .i64 0]] rfl (by (try simp only [List.map_toArray, List.map_cons, List.map_nil]); first | done | rfl | (simp only [List.length_drop, List.length_take]; rfl)) ?_; (with_reducible refine (date_Right.calls k a0 a1 a2 0 0 0 0 t312 _ A6.out).mono ?_); rintro e w8 ⟨rfl, hb⟩; refine ⟨_, rfl, ?_⟩; have n0_ := Aside0.mk (below_step (by repeat (first | (with_reducible first | exact HB.out | apply below_alloc | apply pw_below_drewN | apply below_drew1) | exact HB.out)) hb); clear HB; have HB := n0_; clear n0_; (try clear hb); (try clear hb2); (try clear hk); (try clear hi)))
  (try simp only [Act.put, List.setIfInBounds_toArray, List.set_cons_zero, List.set_cons_succ])
  go_cut [] (fun wc => ∃ (kq : Nat), Aside0 (haversacklaw09_DateTurns.j1 kq a3 = some r) ∧ Aside0 (kq ≤ k) ∧ Aside0 (Below w.heap.size w wc))
  case first =>
    have H := HC7.out
    clear HC7
    by_cases c9 : t312 = true
    · subst c9
      have H1 : ((date_Civil.f k t311).bind fun bt313 => (if bt313.1 = a0 then (if bt313.2.1 = a1 then (haversacklaw09_DateTurns.j0 k a0 a1 a2 a3 t311 (bt313.2.2 != a2)) else (haversacklaw09_DateTurns.j0 k a0 a1 a2 a3 t311 true)) else (haversacklaw09_DateTurns.j0 k a0 a1 a2 a3 t311 true))) = some r := by rw [if_pos rfl] at H; exact H
      clear H
      have H := H1
      clear H1
      replace H := Option.bind_eq_some_iff.mp H
      obtain ⟨⟨t313, t314, t315⟩, A100, H⟩ := H
      replace H : (if t313 = a0 then (if t314 = a1 then (haversacklaw09_DateTurns.j0 k a0 a1 a2 a3 t311 (t315 != a2)) else (haversacklaw09_DateTurns.j0 k a0 a1 a2 a3 t311 true)) else (haversacklaw09_DateTurns.j0 k a0 a1 a2 a3 t311 true)) = some r := H
      have A10 := Aside0.mk A100
      clear A100
      have HC11 := Aside0.mk H
      clear H
      go_upto_region 4 with (first | ((with_reducible refine gate_callee (f := 18) rfl ?_); refine goesL_ (some 27) rfl rfl Try.func18 (by kernel_rfl) rfl #[.int .i64 t311] rfl (by (try simp only [List.map_toArray, List.map_cons, List.map_nil]); first | done | rfl | (simp only [List.length_drop, List.length_take]; rfl)) ?_; (with_reducible refine (date_Civil.calls k t311 t313 t314 t315 _ A10.out).mono ?_); rintro e w' ⟨rfl, ⟨nd, rfl⟩⟩; refine ⟨_, rfl, ?_⟩))
      (try simp only [Act.put, List.setIfInBounds_toArray, List.set_cons_zero, List.set_cons_succ])
      go_cut [43] (fun v43 wc => ∃ (kq : Nat) (x43_10 : Bool), v43 = .bool x43_10 ∧ Aside0 (haversacklaw09_DateTurns.j0 kq a0 a1 a2 a3 t311 x43_10 = some r) ∧ Aside0 (kq ≤ k) ∧ Aside0 (Below w.heap.size w wc))
      case first =>
        have H := HC11.out
        clear HC11
        by_cases c12 : t313 = a0
        · rw [if_pos c12] at H
          have c12b0 : (t313 == a0) = true := beq_iff_eq.mpr c12
          have c12b1 : (t313 != a0) = false := bne_eq_false_iff_eq.mpr c12
          clear c12
          (first | rw [c12b0] | (simp only [i64_w, i32_w]; rw [c12b0]) | skip)
          by_cases c13 : t314 = a1
          · rw [if_pos c13] at H
            have c13b0 : (t314 == a1) = true := beq_iff_eq.mpr c13
            have c13b1 : (t314 != a1) = false := bne_eq_false_iff_eq.mpr c13
            clear c13
            have H' := Aside0.mk H
            clear H
            go_wp2
            go_meet
            case rel => exact ⟨_, ((t315 != a2)), (by first | with_reducible rfl | (simp only [ByteArray.size_append, ByteArray.size_extract, Nat.min_self, Nat.sub_zero, Go.Proofs.Ytooknjpdflokkaa.My.lit_size, List.size_toArray, List.length_cons, List.length_nil, Nat.reduceAdd, Nat.zero_add]; done) | rfl | (simp; done) | (simp [*]; done)), H', ⟨by first | omega | exact Nat.le_refl _⟩, ⟨by repeat (first | (with_reducible first | exact HB.out | apply below_alloc | apply pw_below_drewN | apply below_drew1) | exact HB.out)⟩⟩
          · rw [if_neg c13] at H
            have c13b0 : (t314 == a1) = false := beq_eq_false_iff_ne.mpr c13
            have c13b1 : (t314 != a1) = true := bne_iff_ne.mpr c13
            have H' := Aside0.mk H
            clear H
            go_wp2
            go_meet
            case rel => exact ⟨_, (true), (by first | with_reducible rfl | (simp only [ByteArray.size_append, ByteArray.size_extract, Nat.min_self, Nat.sub_zero, Go.Proofs.Ytooknjpdflokkaa.My.lit_size, List.size_toArray, List.length_cons, List.length_nil, Nat.reduceAdd, Nat.zero_add]; done) | rfl | (simp; done) | (simp [*]; done)), H', ⟨by first | omega | exact Nat.le_refl _⟩, ⟨by repeat (first | (with_reducible first | exact HB.out | apply below_alloc | apply pw_below_drewN | apply below_drew1) | exact HB.out)⟩⟩
        · rw [if_neg c12] at H
          have c12b0 : (t313 == a0) = false := beq_eq_false_iff_ne.mpr c12
          have c12b1 : (t313 != a0) = true := bne_iff_ne.mpr c12
          (first | rw [c12b0] | (simp only [i64_w, i32_w]; rw [c12b0]) | skip)
          have H' := Aside0.mk H
          clear H
          go_wp2
          go_meet
          case rel => exact ⟨_, (true), (by first | with_reducible rfl | (simp only [ByteArray.size_append, ByteArray.size_extract, Nat.min_self, Nat.sub_zero, Go.Proofs.Ytooknjpdflokkaa.My.lit_size, List.size_toArray, List.length_cons, List.length_nil, Nat.reduceAdd, Nat.zero_add]; done) | rfl | (simp; done) | (simp [*]; done)), H', ⟨by first | omega | exact Nat.le_refl _⟩, ⟨by repeat (first | (with_reducible first | exact HB.out | apply below_alloc | apply pw_below_drewN | apply below_drew1) | exact HB.out)⟩⟩
      case rest =>
        clear HC11
        try clear c1
        try clear c2
        try clear p2
        try clear c6
        try clear c9
        try clear c12
        try clear c12b0
        try clear c12b1
        try clear c13
        try clear c13b0
        try clear c13b1
        obtain ⟨kq, x43_10, rfl, HA, HJ10, HB⟩ := hcut
        cases kq with
        | zero => exact absurd HA.out (by simp [haversacklaw09_DateTurns.j0])
        | succ kj10 =>
          have H := HA.out
          clear HA
          simp only [haversacklaw09_DateTurns.j0] at H
          by_cases c14 : x43_10 = true
          · subst c14
            have H1 : (some false) = some r := by rw [if_pos rfl] at H; exact H
            clear H
            have H := H1
            clear H1
            obtain rfl := Option.some.inj H
            go_wp2
            go_ret
            exact ⟨by first | rfl | (simp [errW_none, errW_some] <;> rfl) | (simp [*, errW_none, errW_some] <;> rfl), by repeat (first | (with_reducible first | exact HB.out | apply below_alloc | apply pw_below_drewN | apply below_drew1) | exact HB.out)⟩
          · replace c14 := Bool.eq_false_iff.mpr c14
            subst c14
            have H1 : ((date_Right.f kj10 a0 a1 (wrap64 (a2 + 1)) 0 0 0 0).bind fun t316 => (if t316 = true then ((date_Days.f kj10 a0 a1 (wrap64 (a2 + 1))).bind fun t317 => (if t317 = (wrap64 (t311 + 1)) then (haversacklaw09_DateTurns.j1 kj10 a3) else (some false))) else (haversacklaw09_DateTurns.j1 kj10 a3))) = some r := by rw [if_neg (show ¬ (false = true) by decide)] at H; exact H
            clear H
            have H := H1
            clear H1
            replace H := Option.bind_eq_some_iff.mp H
            obtain ⟨t316, A150, H⟩ := H
            replace H : (if t316 = true then ((date_Days.f kj10 a0 a1 (wrap64 (a2 + 1))).bind fun t317 => (if t317 = (wrap64 (t311 + 1)) then (haversacklaw09_DateTurns.j1 kj10 a3) else (some false))) else (haversacklaw09_DateTurns.j1 kj10 a3)) = some r := H
            have A15 := Aside0.mk A150
            clear A150
            by_cases c16 : t316 = true
            · subst c16
              have H1 : ((date_Days.f kj10 a0 a1 (wrap64 (a2 + 1))).bind fun t317 => (if t317 = (wrap64 (t311 + 1)) then (haversacklaw09_DateTurns.j1 kj10 a3) else (some false))) = some r := by rw [if_pos rfl] at H; exact H
              clear H
              have H := H1
              clear H1
              replace H := Option.bind_eq_some_iff.mp H
              obtain ⟨t317, A170, H⟩ := H
              replace H : (if t317 = (wrap64 (t311 + 1)) then (haversacklaw09_DateTurns.j1 kj10 a3) else (some false)) = some r := H
              have A17 := Aside0.mk A170
              clear A170
              by_cases c18 : t317 = (wrap64 (t311 + 1))
              · rw [if_pos c18] at H
                have c18b0 : (t317 == (wrap64 (t311 + 1))) = true := beq_iff_eq.mpr c18
                have c18b1 : (t317 != (wrap64 (t311 + 1))) = false := bne_eq_false_iff_eq.mpr c18
                clear c18
                have H' := Aside0.mk H
                clear H
                go_wp2_with (first | ((with_reducible refine gate_callee (f := 16) rfl ?_); refine goesL_ (some 49) rfl rfl Try.func16 (by kernel_rfl) rfl #[.agg #[.int .i64 a0, .int .i64 a1, .int .i64 (wrap64 (a2 + 1)), .int .i64 0, .int .i64 0, .int .i64 0, .int .i64 0]] rfl (by (try simp only [List.map_toArray, List.map_cons, List.map_nil]); first | done | rfl | (simp only [List.length_drop, List.length_take]; rfl)) ?_; (with_reducible refine (date_Right.calls kj10 a0 a1 (wrap64 (a2 + 1)) 0 0 0 0 true _ A15.out).mono ?_); rintro e w19 ⟨rfl, hb⟩; refine ⟨_, rfl, ?_⟩; have n0_ := Aside0.mk (below_step (by repeat (first | (with_reducible first | exact HB.out | apply below_alloc | apply pw_below_drewN | apply below_drew1) | exact HB.out)) hb); clear HB; have HB := n0_; clear n0_; (try clear hb); (try clear hb2); (try clear hk); (try clear hi)) | (go_at_call 20; (with_reducible refine (date_Days.calls kj10 a0 a1 (wrap64 (a2 + 1)) t317 _ A17.out).mono ?_); rintro e w' ⟨rfl, ⟨nd, rfl⟩⟩))
                go_meet
                case rel => exact ⟨_, H', ⟨by have := HJ10.out; first | omega | exact Nat.le_refl _⟩, ⟨by repeat (first | (with_reducible first | exact HB.out | apply below_alloc | apply pw_below_drewN | apply below_drew1) | exact HB.out)⟩⟩
              · rw [if_neg c18] at H
                have c18b0 : (t317 == (wrap64 (t311 + 1))) = false := beq_eq_false_iff_ne.mpr c18
                have c18b1 : (t317 != (wrap64 (t311 + 1))) = true := bne_iff_ne.mpr c18
                obtain rfl := Option.some.inj H
                go_wp2_with (first | ((with_reducible refine gate_callee (f := 16) rfl ?_); refine goesL_ (some 49) rfl rfl Try.func16 (by kernel_rfl) rfl #[.agg #[.int .i64 a0, .int .i64 a1, .int .i64 (wrap64 (a2 + 1)), .int .i64 0, .int .i64 0, .int .i64 0, .int .i64 0]] rfl (by (try simp only [List.map_toArray, List.map_cons, List.map_nil]); first | done | rfl | (simp only [List.length_drop, List.length_take]; rfl)) ?_; (with_reducible refine (date_Right.calls kj10 a0 a1 (wrap64 (a2 + 1)) 0 0 0 0 true _ A15.out).mono ?_); rintro e w20 ⟨rfl, hb⟩; refine ⟨_, rfl, ?_⟩; have n0_ := Aside0.mk (below_step (by repeat (first | (with_reducible first | exact HB.out | apply below_alloc | apply pw_below_drewN | apply below_drew1) | exact HB.out)) hb); clear HB; have HB := n0_; clear n0_; (try clear hb); (try clear hb2); (try clear hk); (try clear hi)) | (go_at_call 20; (with_reducible refine (date_Days.calls kj10 a0 a1 (wrap64 (a2 + 1)) t317 _ A17.out).mono ?_); rintro e w' ⟨rfl, ⟨nd, rfl⟩⟩))
                go_ret
                exact ⟨by first | rfl | (simp [errW_none, errW_some] <;> rfl) | (simp [*, errW_none, errW_some] <;> rfl), by repeat (first | (with_reducible first | exact HB.out | apply below_alloc | apply pw_below_drewN | apply below_drew1) | exact HB.out)⟩
            · replace c16 := Bool.eq_false_iff.mpr c16
              subst c16
              have H1 : (haversacklaw09_DateTurns.j1 kj10 a3) = some r := by rw [if_neg (show ¬ (false = true) by decide)] at H; exact H
              clear H
              have H := H1
              clear H1
              have H' := Aside0.mk H
              clear H
              go_wp2_with (first | ((with_reducible refine gate_callee (f := 16) rfl ?_); refine goesL_ (some 49) rfl rfl Try.func16 (by kernel_rfl) rfl #[.agg #[.int .i64 a0, .int .i64 a1, .int .i64 (wrap64 (a2 + 1)), .int .i64 0, .int .i64 0, .int .i64 0, .int .i64 0]] rfl (by (try simp only [List.map_toArray, List.map_cons, List.map_nil]); first | done | rfl | (simp only [List.length_drop, List.length_take]; rfl)) ?_; (with_reducible refine (date_Right.calls kj10 a0 a1 (wrap64 (a2 + 1)) 0 0 0 0 false _ A15.out).mono ?_); rintro e w21 ⟨rfl, hb⟩; refine ⟨_, rfl, ?_⟩; have n0_ := Aside0.mk (below_step (by repeat (first | (with_reducible first | exact HB.out | apply below_alloc | apply pw_below_drewN | apply below_drew1) | exact HB.out)) hb); clear HB; have HB := n0_; clear n0_; (try clear hb); (try clear hb2); (try clear hk); (try clear hi)))
              go_meet
              case rel => exact ⟨_, H', ⟨by have := HJ10.out; first | omega | exact Nat.le_refl _⟩, ⟨by repeat (first | (with_reducible first | exact HB.out | apply below_alloc | apply pw_below_drewN | apply below_drew1) | exact HB.out)⟩⟩
    · replace c9 := Bool.eq_false_iff.mpr c9
      subst c9
      have H1 : (if t311 = 0 then (haversacklaw09_DateTurns.j1 k a3) else (some false)) = some r := by rw [if_neg (show ¬ (false = true) by decide)] at H; exact H
      clear H
      have H := H1
      clear H1
      by_cases c22 : t311 = 0
      · rw [if_pos c22] at H
        have c22b0 : (t311 == 0) = true := beq_iff_eq.mpr c22
        have c22b1 : (t311 != 0) = false := bne_eq_false_iff_eq.mpr c22
        clear c22
        have H' := Aside0.mk H
        clear H
        go_wp2
        go_meet
        case rel => exact ⟨_, H', ⟨by first | omega | exact Nat.le_refl _⟩, ⟨by repeat (first | (with_reducible first | exact HB.out | apply below_alloc | apply pw_below_drewN | apply below_drew1) | exact HB.out)⟩⟩
      · rw [if_neg c22] at H
        have c22b0 : (t311 == 0) = false := beq_eq_false_iff_ne.mpr c22
        have c22b1 : (t311 != 0) = true := bne_iff_ne.mpr c22
        obtain rfl := Option.some.inj H
        go_wp2
        go_ret
        exact ⟨by first | rfl | (simp [errW_none, errW_some] <;> rfl) | (simp [*, errW_none, errW_some] <;> rfl), by repeat (first | (with_reducible first | exact HB.out | apply below_alloc | apply pw_below_drewN | apply below_drew1) | exact HB.out)⟩
  case rest =>
    clear HC7
    try clear c1
    try clear c2
    try clear p2
    try clear c6
    try clear p6
    try clear c9
    try clear c12
    try clear c12b0
    try clear c12b1
    try clear c13
    try clear c13b0
    try clear c13b1
    try clear c14
    try clear c16
    try clear c18
    try clear c18b0
    try clear c18b1
    try clear c20
    try clear c22
    try clear c22b0
    try clear c22b1
    try clear p2
    obtain ⟨kq, HA, HJ6, HB⟩ := hcut
    cases kq with
    | zero => exact absurd HA.out (by simp [haversacklaw09_DateTurns.j1])
    | succ kj6 =>
      have H := HA.out
      clear HA
      simp only [haversacklaw09_DateTurns.j1] at H
      replace H := Option.bind_eq_some_iff.mp H
      obtain ⟨⟨t318, t319, t320⟩, A230, H⟩ := H
      replace H : (if t318 = 0 then (if (wrap64 (t319 + t320)) = 0 then ((haversacklaw09_alive.f kj6).bind fun t321 => (some t321)) else (some false)) else ((date_Days.f kj6 t318 t319 t320).bind fun t322 => (if t322 = a3 then ((date_Right.f kj6 t318 t319 t320 0 0 0 0).bind fun t323 => (if t323 = true then ((haversacklaw09_alive.f kj6).bind fun t324 => (some t324)) else (some false))) else (some false)))) = some r := H
      have A23 := Aside0.mk A230
      clear A230
      by_cases c24 : t318 = 0
      · rw [if_pos c24] at H
        have c24b0 : (t318 == 0) = true := beq_iff_eq.mpr c24
        have c24b1 : (t318 != 0) = false := bne_eq_false_iff_eq.mpr c24
        clear c24
        by_cases c25 : (wrap64 (t319 + t320)) = 0
        · rw [if_pos c25] at H
          have c25b0 : ((wrap64 (t319 + t320)) == 0) = true := beq_iff_eq.mpr c25
          have c25b1 : ((wrap64 (t319 + t320)) != 0) = false := bne_eq_false_iff_eq.mpr c25
          clear c25
          replace H := Option.bind_eq_some_iff.mp H
          obtain ⟨t321, A260, H⟩ := H
          replace H : (some t321) = some r := H
          have A26 := Aside0.mk A260
          clear A260
          obtain rfl := Option.some.inj H
          go_wp2_with (first | ((with_reducible refine gate_callee (f := 18) rfl ?_); refine goesL_ (some 64) rfl rfl Try.func18 (by kernel_rfl) rfl #[.int .i64 a3] rfl (by (try simp only [List.map_toArray, List.map_cons, List.map_nil]); first | done | rfl | (simp only [List.length_drop, List.length_take]; rfl)) ?_; (with_reducible refine (date_Civil.calls kj6 a3 t318 t319 t320 _ A23.out).mono ?_); rintro e w' ⟨rfl, ⟨nd, rfl⟩⟩; refine ⟨_, rfl, ?_⟩) | (go_at_call 8; (with_reducible refine (haversacklaw09_alive.calls kj6  t321 _ A26.out).mono ?_); rintro e w27 ⟨rfl, hb⟩; have n0_ := Aside0.mk (below_step (by repeat (first | (with_reducible first | exact HB.out | apply below_alloc | apply pw_below_drewN | apply below_drew1) | exact HB.out)) hb); clear HB; have HB := n0_; clear n0_; (try clear hb); (try clear hb2); (try clear hk); (try clear hi)))
          go_ret
          exact ⟨by first | rfl | (simp [errW_none, errW_some] <;> rfl) | (simp [*, errW_none, errW_some] <;> rfl), by repeat (first | (with_reducible first | exact HB.out | apply below_alloc | apply pw_below_drewN | apply below_drew1) | exact HB.out)⟩
        · rw [if_neg c25] at H
          have c25b0 : ((wrap64 (t319 + t320)) == 0) = false := beq_eq_false_iff_ne.mpr c25
          have c25b1 : ((wrap64 (t319 + t320)) != 0) = true := bne_iff_ne.mpr c25
          obtain rfl := Option.some.inj H
          go_wp2_with (first | ((with_reducible refine gate_callee (f := 18) rfl ?_); refine goesL_ (some 64) rfl rfl Try.func18 (by kernel_rfl) rfl #[.int .i64 a3] rfl (by (try simp only [List.map_toArray, List.map_cons, List.map_nil]); first | done | rfl | (simp only [List.length_drop, List.length_take]; rfl)) ?_; (with_reducible refine (date_Civil.calls kj6 a3 t318 t319 t320 _ A23.out).mono ?_); rintro e w' ⟨rfl, ⟨nd, rfl⟩⟩; refine ⟨_, rfl, ?_⟩))
          go_ret
          exact ⟨by first | rfl | (simp [errW_none, errW_some] <;> rfl) | (simp [*, errW_none, errW_some] <;> rfl), by repeat (first | (with_reducible first | exact HB.out | apply below_alloc | apply pw_below_drewN | apply below_drew1) | exact HB.out)⟩
      · rw [if_neg c24] at H
        have c24b0 : (t318 == 0) = false := beq_eq_false_iff_ne.mpr c24
        have c24b1 : (t318 != 0) = true := bne_iff_ne.mpr c24
        replace H := Option.bind_eq_some_iff.mp H
        obtain ⟨t322, A280, H⟩ := H
        replace H : (if t322 = a3 then ((date_Right.f kj6 t318 t319 t320 0 0 0 0).bind fun t323 => (if t323 = true then ((haversacklaw09_alive.f kj6).bind fun t324 => (some t324)) else (some false))) else (some false)) = some r := H
        have A28 := Aside0.mk A280
        clear A280
        by_cases c29 : t322 = a3
        · rw [if_pos c29] at H
          have c29b0 : (t322 == a3) = true := beq_iff_eq.mpr c29
          have c29b1 : (t322 != a3) = false := bne_eq_false_iff_eq.mpr c29
          clear c29
          replace H := Option.bind_eq_some_iff.mp H
          obtain ⟨t323, A300, H⟩ := H
          replace H : (if t323 = true then ((haversacklaw09_alive.f kj6).bind fun t324 => (some t324)) else (some false)) = some r := H
          have A30 := Aside0.mk A300
          clear A300
          by_cases c31 : t323 = true
          · subst c31
            have H1 : ((haversacklaw09_alive.f kj6).bind fun t324 => (some t324)) = some r := by rw [if_pos rfl] at H; exact H
            clear H
            have H := H1
            clear H1
            replace H := Option.bind_eq_some_iff.mp H
            obtain ⟨t324, A320, H⟩ := H
            replace H : (some t324) = some r := H
            have A32 := Aside0.mk A320
            clear A320
            obtain rfl := Option.some.inj H
            go_wp2_with (first | ((with_reducible refine gate_callee (f := 18) rfl ?_); refine goesL_ (some 64) rfl rfl Try.func18 (by kernel_rfl) rfl #[.int .i64 a3] rfl (by (try simp only [List.map_toArray, List.map_cons, List.map_nil]); first | done | rfl | (simp only [List.length_drop, List.length_take]; rfl)) ?_; (with_reducible refine (date_Civil.calls kj6 a3 t318 t319 t320 _ A23.out).mono ?_); rintro e w' ⟨rfl, ⟨nd, rfl⟩⟩; refine ⟨_, rfl, ?_⟩) | ((with_reducible refine gate_callee (f := 20) rfl ?_); refine goesL_ (some 80) rfl rfl Try.func20 (by kernel_rfl) rfl #[.int .i64 t318, .int .i64 t319, .int .i64 t320] rfl (by (try simp only [List.map_toArray, List.map_cons, List.map_nil]); first | done | rfl | (simp only [List.length_drop, List.length_take]; rfl)) ?_; (with_reducible refine (date_Days.calls kj6 t318 t319 t320 t322 _ A28.out).mono ?_); rintro e w' ⟨rfl, ⟨nd, rfl⟩⟩; refine ⟨_, rfl, ?_⟩) | (go_at_call 16; (with_reducible refine (date_Right.calls kj6 t318 t319 t320 0 0 0 0 true _ A30.out).mono ?_); rintro e w33 ⟨rfl, hb⟩; have n0_ := Aside0.mk (below_step (by repeat (first | (with_reducible first | exact HB.out | apply below_alloc | apply pw_below_drewN | apply below_drew1) | exact HB.out)) hb); clear HB; have HB := n0_; clear n0_; (try clear hb); (try clear hb2); (try clear hk); (try clear hi)) | (go_at_call 8; (with_reducible refine (haversacklaw09_alive.calls kj6  t324 _ A32.out).mono ?_); rintro e w34 ⟨rfl, hb⟩; have n0_ := Aside0.mk (below_step (by repeat (first | (with_reducible first | exact HB.out | apply below_alloc | apply pw_below_drewN | apply below_drew1) | exact HB.out)) hb); clear HB; have HB := n0_; clear n0_; (try clear hb); (try clear hb2); (try clear hk); (try clear hi)))
            go_ret
            exact ⟨by first | rfl | (simp [errW_none, errW_some] <;> rfl) | (simp [*, errW_none, errW_some] <;> rfl), by repeat (first | (with_reducible first | exact HB.out | apply below_alloc | apply pw_below_drewN | apply below_drew1) | exact HB.out)⟩
          · replace c31 := Bool.eq_false_iff.mpr c31
            subst c31
            have H1 : (some false) = some r := by rw [if_neg (show ¬ (false = true) by decide)] at H; exact H
            clear H
            have H := H1
            clear H1
            obtain rfl := Option.some.inj H
            go_wp2_with (first | ((with_reducible refine gate_callee (f := 18) rfl ?_); refine goesL_ (some 64) rfl rfl Try.func18 (by kernel_rfl) rfl #[.int .i64 a3] rfl (by (try simp only [List.map_toArray, List.map_cons, List.map_nil]); first | done | rfl | (simp only [List.length_drop, List.length_take]; rfl)) ?_; (with_reducible refine (date_Civil.calls kj6 a3 t318 t319 t320 _ A23.out).mono ?_); rintro e w' ⟨rfl, ⟨nd, rfl⟩⟩; refine ⟨_, rfl, ?_⟩) | ((with_reducible refine gate_callee (f := 20) rfl ?_); refine goesL_ (some 80) rfl rfl Try.func20 (by kernel_rfl) rfl #[.int .i64 t318, .int .i64 t319, .int .i64 t320] rfl (by (try simp only [List.map_toArray, List.map_cons, List.map_nil]); first | done | rfl | (simp only [List.length_drop, List.length_take]; rfl)) ?_; (with_reducible refine (date_Days.calls kj6 t318 t319 t320 t322 _ A28.out).mono ?_); rintro e w' ⟨rfl, ⟨nd, rfl⟩⟩; refine ⟨_, rfl, ?_⟩) | (go_at_call 16; (with_reducible refine (date_Right.calls kj6 t318 t319 t320 0 0 0 0 false _ A30.out).mono ?_); rintro e w35 ⟨rfl, hb⟩; have n0_ := Aside0.mk (below_step (by repeat (first | (with_reducible first | exact HB.out | apply below_alloc | apply pw_below_drewN | apply below_drew1) | exact HB.out)) hb); clear HB; have HB := n0_; clear n0_; (try clear hb); (try clear hb2); (try clear hk); (try clear hi)))
            go_ret
            exact ⟨by first | rfl | (simp [errW_none, errW_some] <;> rfl) | (simp [*, errW_none, errW_some] <;> rfl), by repeat (first | (with_reducible first | exact HB.out | apply below_alloc | apply pw_below_drewN | apply below_drew1) | exact HB.out)⟩
        · rw [if_neg c29] at H
          have c29b0 : (t322 == a3) = false := beq_eq_false_iff_ne.mpr c29
          have c29b1 : (t322 != a3) = true := bne_iff_ne.mpr c29
          obtain rfl := Option.some.inj H
          go_wp2_with (first | ((with_reducible refine gate_callee (f := 18) rfl ?_); refine goesL_ (some 64) rfl rfl Try.func18 (by kernel_rfl) rfl #[.int .i64 a3] rfl (by (try simp only [List.map_toArray, List.map_cons, List.map_nil]); first | done | rfl | (simp only [List.length_drop, List.length_take]; rfl)) ?_; (with_reducible refine (date_Civil.calls kj6 a3 t318 t319 t320 _ A23.out).mono ?_); rintro e w' ⟨rfl, ⟨nd, rfl⟩⟩; refine ⟨_, rfl, ?_⟩) | ((with_reducible refine gate_callee (f := 20) rfl ?_); refine goesL_ (some 80) rfl rfl Try.func20 (by kernel_rfl) rfl #[.int .i64 t318, .int .i64 t319, .int .i64 t320] rfl (by (try simp only [List.map_toArray, List.map_cons, List.map_nil]); first | done | rfl | (simp only [List.length_drop, List.length_take]; rfl)) ?_; (with_reducible refine (date_Days.calls kj6 t318 t319 t320 t322 _ A28.out).mono ?_); rintro e w' ⟨rfl, ⟨nd, rfl⟩⟩; refine ⟨_, rfl, ?_⟩))
          go_ret
          exact ⟨by first | rfl | (simp [errW_none, errW_some] <;> rfl) | (simp [*, errW_none, errW_some] <;> rfl), by repeat (first | (with_reducible first | exact HB.out | apply below_alloc | apply pw_below_drewN | apply below_drew1) | exact HB.out)⟩

/-- THE ONE PURE STATEMENT of haversacklaw09_DateTurns: yours. -/
def haversacklaw09_DateTurns.Pure : Prop := ∀ (a0 : Int) (a1 : Int) (a2 : Int) (a3 : Int), (Lit.int .i64 a0).wf = true → (Lit.int .i64 a1).wf = true → (Lit.int .i64 a2).wf = true → (Lit.int .i64 a3).wf = true → ∃ k, haversacklaw09_DateTurns.f k a0 a1 a2 a3 = some true
theorem haversacklaw09_DateTurns.walk (P : haversacklaw09_DateTurns.Pure) (a0 : Int) (a1 : Int) (a2 : Int) (a3 : Int) (w : World) (w0 : (Lit.int .i64 a0).wf = true) (w1 : (Lit.int .i64 a1).wf = true) (w2 : (Lit.int .i64 a2).wf = true) (w3 : (Lit.int .i64 a3).wf = true) :
    Calls Try.prog 6 #[.int .i64 a0, .int .i64 a1, .int .i64 a2, .int .i64 a3] w fun e w' => e = .returned (.bool true) ∧ Below w.heap.size w w' := by
  obtain ⟨k, h⟩ := P a0 a1 a2 a3 w0 w1 w2 w3
  refine (haversacklaw09_DateTurns.calls k a0 a1 a2 a3 true w h).mono ?_
  rintro e w' ⟨rfl, hd⟩
  exact ⟨rfl, hd⟩

/-! ### date_At: function 24 -/
def atB (u z : Int) : Bool := decide (-1439 ≤ z ∧ z ≤ 1439 ∧ -1125899906842624 ≤ u ∧ u ≤ 1125899906842624)
def date_At.f (k : Nat) (a0 a1 : Int) : Option (Int × Int × Int × Int × Int × Int × Int) :=
  if atB a0 a1 = true then
    (date_Civil.f k ((a0 + a1 * 60) / 86400)).map fun c => if c.1 = 0 then (0, 0, 0, 0, 0, 0, 0) else (c.1, c.2.1, c.2.2, (a0 + a1 * 60) % 86400 / 3600, (a0 + a1 * 60) % 86400 / 60 % 60, (a0 + a1 * 60) % 86400 % 60, a1)
  else some (0, 0, 0, 0, 0, 0, 0)
theorem date_At.mono : ∀ a0 a1 k, LeO (date_At.f k a0 a1) (date_At.f (k + 1) a0 a1) := by
  intro a0 a1 k
  unfold date_At.f
  split
  · intro r h
    cases hc : date_Civil.f k ((a0 + a1 * 60) / 86400) with
    | none => rw [hc] at h; cases h
    | some c => rw [hc] at h; rw [date_Civil.mono _ _ _ hc]; exact h
  · exact LeO.refl _
/-- A date's block, in which nothing stands. -/
def z7 : Obj := .cells #[.int .i64 0, .int .i64 0, .int .i64 0, .int .i64 0, .int .i64 0, .int .i64 0, .int .i64 0] 23
set_option maxHeartbeats 1000000 in
set_option maxRecDepth 100000 in
theorem at_bad (a0 a1 : Int) (w : World) (h : atB a0 a1 = false) :
    Calls Try.prog 24 #[.int .i64 a0, .int .i64 a1] w fun e w' => e = .returned (.agg #[.int .i64 0, .int .i64 0, .int .i64 0, .int .i64 0, .int .i64 0, .int .i64 0, .int .i64 0]) ∧ Below w.heap.size w w' := by
  unfold atB at h
  rw [decide_eq_false_iff_not] at h
  by_cases h1 : a1 < -1439
  · clear h
    go_enter Try.func24, Try.ntmps24
    go_wp2
    exact bodyPost_ret (v := .agg #[.int .i64 0, .int .i64 0, .int .i64 0, .int .i64 0, .int .i64 0, .int .i64 0, .int .i64 0]) (by simp [results, Try.results24, go_sem]) rfl ⟨rfl, (Below.refl _ _).alloc (Nat.le_refl _) _⟩
  · by_cases h2 : a1 > 1439
    · clear h
      go_enter Try.func24, Try.ntmps24
      go_wp2
      exact bodyPost_ret (v := .agg #[.int .i64 0, .int .i64 0, .int .i64 0, .int .i64 0, .int .i64 0, .int .i64 0, .int .i64 0]) (by simp [results, Try.results24, go_sem]) rfl ⟨rfl, (Below.refl _ _).alloc (Nat.le_refl _) _⟩
    · by_cases h3 : a0 < -1125899906842624
      · clear h
        go_enter Try.func24, Try.ntmps24
        go_wp2
        exact bodyPost_ret (v := .agg #[.int .i64 0, .int .i64 0, .int .i64 0, .int .i64 0, .int .i64 0, .int .i64 0, .int .i64 0]) (by simp [results, Try.results24, go_sem]) rfl ⟨rfl, (Below.refl _ _).alloc (Nat.le_refl _) _⟩
      · have h4 : a0 > 1125899906842624 := by omega
        clear h
        go_enter Try.func24, Try.ntmps24
        go_wp2
        exact bodyPost_ret (v := .agg #[.int .i64 0, .int .i64 0, .int .i64 0, .int .i64 0, .int .i64 0, .int .i64 0, .int .i64 0]) (by simp [results, Try.results24, go_sem]) rfl ⟨rfl, (Below.refl _ _).alloc (Nat.le_refl _) _⟩
set_option maxHeartbeats 1000000 in
set_option maxRecDepth 100000 in
theorem at_pos (k : Nat) (a0 a1 x q s : Int) (y m d : Int) (w : World) (h1 : -1439 ≤ a1) (h2 : a1 ≤ 1439) (h3 : -1125899906842624 ≤ a0) (h4 : a0 ≤ 1125899906842624)
    (hx : a0 + a1 * 60 = x) (hq : x.tdiv 86400 = q) (hs : x.tmod 86400 = s) (hs0 : 0 ≤ s) (hs1 : s < 86400) (hq0 : -20000000000 ≤ q) (hq1 : q ≤ 20000000000) (hy : ¬ y = 0)
    (hc : date_Civil.f k q = some (y, m, d)) :
    Calls Try.prog 24 #[.int .i64 a0, .int .i64 a1] w fun e w' => e = .returned (.agg #[.int .i64 y, .int .i64 m, .int .i64 d, .int .i64 (s / 3600), .int .i64 (s / 60 % 60), .int .i64 (s % 60), .int .i64 a1]) ∧ Below w.heap.size w w' := by
  have HC := Aside0.mk hc
  have hyb : (y == 0) = false := beq_eq_false_iff_ne.2 hy
  clear hc hy
  go_enter Try.func24, Try.ntmps24
  go_wp2_with fail
  refine (date_Civil.calls k _ y m d _ HC.out).mono ?_
  rintro e w1 ⟨rfl, ⟨⟨n1, rfl⟩⟩⟩
  go_wp2_with fail
  refine bodyPost_ret (v := .agg #[.int .i64 y, .int .i64 m, .int .i64 d, .int .i64 (s / 3600), .int .i64 (s / 60 % 60), .int .i64 (s % 60), .int .i64 a1]) (by simp [results, Try.results24, go_sem]) rfl ⟨rfl, ?_⟩
  with_reducible repeat (first | exact Below.refl _ _ | apply below_alloc | apply pw_below_drewN | refine below_set ?_ (by first | exact Nat.le_refl _ | exact Nat.le_succ _))
set_option maxHeartbeats 1000000 in
set_option maxRecDepth 100000 in
theorem at_pos0 (k : Nat) (a0 a1 x q s : Int) (y m d : Int) (w : World) (h1 : -1439 ≤ a1) (h2 : a1 ≤ 1439) (h3 : -1125899906842624 ≤ a0) (h4 : a0 ≤ 1125899906842624)
    (hx : a0 + a1 * 60 = x) (hq : x.tdiv 86400 = q) (hs : x.tmod 86400 = s) (hs0 : 0 ≤ s) (hs1 : s < 86400) (hq0 : -20000000000 ≤ q) (hq1 : q ≤ 20000000000) (hy : y = 0)
    (hc : date_Civil.f k q = some (y, m, d)) :
    Calls Try.prog 24 #[.int .i64 a0, .int .i64 a1] w fun e w' => e = .returned (.agg #[.int .i64 0, .int .i64 0, .int .i64 0, .int .i64 0, .int .i64 0, .int .i64 0, .int .i64 0]) ∧ Below w.heap.size w w' := by
  have HC := Aside0.mk hc
  have hyb : (y == 0) = true := beq_iff_eq.2 hy
  clear hc hy
  go_enter Try.func24, Try.ntmps24
  go_wp2_with fail
  refine (date_Civil.calls k _ y m d _ HC.out).mono ?_
  rintro e w1 ⟨rfl, ⟨⟨n1, rfl⟩⟩⟩
  go_wp2_with fail
  refine bodyPost_ret (v := .agg #[.int .i64 0, .int .i64 0, .int .i64 0, .int .i64 0, .int .i64 0, .int .i64 0, .int .i64 0]) (by simp [results, Try.results24, go_sem]) rfl ⟨rfl, ?_⟩
  with_reducible repeat (first | exact Below.refl _ _ | apply below_alloc | apply pw_below_drewN | refine below_set ?_ (by first | exact Nat.le_refl _ | exact Nat.le_succ _))
set_option maxHeartbeats 1000000 in
set_option maxRecDepth 100000 in
theorem at_neg (k : Nat) (a0 a1 x q s : Int) (y m d : Int) (w : World) (h1 : -1439 ≤ a1) (h2 : a1 ≤ 1439) (h3 : -1125899906842624 ≤ a0) (h4 : a0 ≤ 1125899906842624)
    (hx : a0 + a1 * 60 = x) (hq : x.tdiv 86400 = q) (hs : x.tmod 86400 = s) (hs0 : s < 0) (hs1 : -86400 ≤ s) (hq0 : -20000000000 ≤ q) (hq1 : q ≤ 20000000000) (hy : ¬ y = 0)
    (hc : date_Civil.f k (q - 1) = some (y, m, d)) :
    Calls Try.prog 24 #[.int .i64 a0, .int .i64 a1] w fun e w' => e = .returned (.agg #[.int .i64 y, .int .i64 m, .int .i64 d, .int .i64 ((s + 86400) / 3600), .int .i64 ((s + 86400) / 60 % 60), .int .i64 ((s + 86400) % 60), .int .i64 a1]) ∧ Below w.heap.size w w' := by
  have HC := Aside0.mk hc
  have hyb : (y == 0) = false := beq_eq_false_iff_ne.2 hy
  clear hc hy
  go_enter Try.func24, Try.ntmps24
  go_wp2_with fail
  refine (date_Civil.calls k _ y m d _ HC.out).mono ?_
  rintro e w1 ⟨rfl, ⟨⟨n1, rfl⟩⟩⟩
  go_wp2_with fail
  refine bodyPost_ret (v := .agg #[.int .i64 y, .int .i64 m, .int .i64 d, .int .i64 ((s + 86400) / 3600), .int .i64 ((s + 86400) / 60 % 60), .int .i64 ((s + 86400) % 60), .int .i64 a1]) (by simp [results, Try.results24, go_sem]) rfl ⟨rfl, ?_⟩
  with_reducible repeat (first | exact Below.refl _ _ | apply below_alloc | apply pw_below_drewN | refine below_set ?_ (by first | exact Nat.le_refl _ | exact Nat.le_succ _))
set_option maxHeartbeats 1000000 in
set_option maxRecDepth 100000 in
theorem at_neg0 (k : Nat) (a0 a1 x q s : Int) (y m d : Int) (w : World) (h1 : -1439 ≤ a1) (h2 : a1 ≤ 1439) (h3 : -1125899906842624 ≤ a0) (h4 : a0 ≤ 1125899906842624)
    (hx : a0 + a1 * 60 = x) (hq : x.tdiv 86400 = q) (hs : x.tmod 86400 = s) (hs0 : s < 0) (hs1 : -86400 ≤ s) (hq0 : -20000000000 ≤ q) (hq1 : q ≤ 20000000000) (hy : y = 0)
    (hc : date_Civil.f k (q - 1) = some (y, m, d)) :
    Calls Try.prog 24 #[.int .i64 a0, .int .i64 a1] w fun e w' => e = .returned (.agg #[.int .i64 0, .int .i64 0, .int .i64 0, .int .i64 0, .int .i64 0, .int .i64 0, .int .i64 0]) ∧ Below w.heap.size w w' := by
  have HC := Aside0.mk hc
  have hyb : (y == 0) = true := beq_iff_eq.2 hy
  clear hc hy
  go_enter Try.func24, Try.ntmps24
  go_wp2_with fail
  refine (date_Civil.calls k _ y m d _ HC.out).mono ?_
  rintro e w1 ⟨rfl, ⟨⟨n1, rfl⟩⟩⟩
  go_wp2_with fail
  refine bodyPost_ret (v := .agg #[.int .i64 0, .int .i64 0, .int .i64 0, .int .i64 0, .int .i64 0, .int .i64 0, .int .i64 0]) (by simp [results, Try.results24, go_sem]) rfl ⟨rfl, ?_⟩
  with_reducible repeat (first | exact Below.refl _ _ | apply below_alloc | apply pw_below_drewN | refine below_set ?_ (by first | exact Nat.le_refl _ | exact Nat.le_succ _))
theorem tdm (x : Int) : (0 ≤ x.tmod 86400 ∧ x / 86400 = x.tdiv 86400 ∧ x % 86400 = x.tmod 86400) ∨ (x.tmod 86400 < 0 ∧ x / 86400 = x.tdiv 86400 - 1 ∧ x % 86400 = x.tmod 86400 + 86400) := by
  have h1 := Int.mul_tdiv_add_tmod x 86400
  rcases Int.le_total 0 x with h | h
  · left
    rw [Int.tdiv_eq_ediv_of_nonneg h, Int.tmod_eq_emod_of_nonneg h]; omega
  · obtain ⟨y, rfl⟩ : ∃ y, x = -y := ⟨-x, by omega⟩
    have hy : 0 ≤ y := by omega
    rw [Int.neg_tdiv, Int.neg_tmod, Int.tdiv_eq_ediv_of_nonneg hy, Int.tmod_eq_emod_of_nonneg hy]
    by_cases hz : y % 86400 = 0
    · left; omega
    · right; omega
theorem date_At.calls (k : Nat) (a0 a1 : Int) (r1 r2 r3 r4 r5 r6 r7 : Int) (w : World) (h : date_At.f k a0 a1 = some (r1, r2, r3, r4, r5, r6, r7)) :
    Calls Try.prog 24 #[.int .i64 a0, .int .i64 a1] w fun e w' => e = .returned (.agg #[.int .i64 r1, .int .i64 r2, .int .i64 r3, .int .i64 r4, .int .i64 r5, .int .i64 r6, .int .i64 r7]) ∧ Below w.heap.size w w' := by
  unfold date_At.f at h
  cases hb : atB a0 a1 with
  | false =>
    rw [hb, if_neg (by simp)] at h
    injection h with h
    simp only [Prod.mk.injEq] at h
    obtain ⟨rfl, rfl, rfl, rfl, rfl, rfl, rfl⟩ := h
    exact at_bad a0 a1 w hb
  | true =>
    rw [hb, if_pos rfl] at h
    unfold atB at hb
    rw [decide_eq_true_iff] at hb
    obtain ⟨h1, h2, h3, h4⟩ := hb
    cases hc : date_Civil.f k ((a0 + a1 * 60) / 86400) with
    | none => rw [hc] at h; cases h
    | some c =>
      obtain ⟨y, m, d⟩ := c
      rw [hc] at h
      simp only [Option.map_some] at h
      injection h with h
      rcases tdm (a0 + a1 * 60) with ⟨e0, e1, e2⟩ | ⟨e0, e1, e2⟩
      · rw [e1] at hc
        rw [e2] at h
        by_cases hy : y = 0
        · rw [if_pos hy] at h
          simp only [Prod.mk.injEq] at h
          obtain ⟨rfl, rfl, rfl, rfl, rfl, rfl, rfl⟩ := h
          exact at_pos0 k a0 a1 _ _ _ y m d w h1 h2 h3 h4 rfl rfl rfl e0 (by omega) (by omega) (by omega) hy hc
        · rw [if_neg hy] at h
          simp only [Prod.mk.injEq] at h
          obtain ⟨rfl, rfl, rfl, rfl, rfl, rfl, rfl⟩ := h
          exact at_pos k a0 a1 _ _ _ _ _ _ w h1 h2 h3 h4 rfl rfl rfl e0 (by omega) (by omega) (by omega) hy hc
      · rw [e1] at hc
        rw [e2] at h
        by_cases hy : y = 0
        · rw [if_pos hy] at h
          simp only [Prod.mk.injEq] at h
          obtain ⟨rfl, rfl, rfl, rfl, rfl, rfl, rfl⟩ := h
          exact at_neg0 k a0 a1 _ _ _ y m d w h1 h2 h3 h4 rfl rfl rfl e0 (by omega) (by omega) (by omega) hy hc
        · rw [if_neg hy] at h
          simp only [Prod.mk.injEq] at h
          obtain ⟨rfl, rfl, rfl, rfl, rfl, rfl, rfl⟩ := h
          exact at_neg k a0 a1 _ _ _ _ _ _ w h1 h2 h3 h4 rfl rfl rfl e0 (by omega) (by omega) (by omega) hy hc

/-! ### haversackref09_At: function 25 -/
def haversackref09_At.j0 : Nat → Int → Int → Bool → Option (Int × Int × Int × Int × Int × Int × Int)
  | 0, _, _, _ => none
  | k + 1, x0, x1, x17 => if x17 = true then (some (0, 0, 0, 0, 0, 0, 0)) else ((haversackref09_Civil.f k (wrap64 (Int.tdiv (wrap64 ((wrap64 (x0 + (wrap64 (60 * x1)))) - (Int.tmod (wrap64 ((Int.tmod (wrap64 (x0 + (wrap64 (60 * x1)))) 86400) + 86400)) 86400))) 86400))).bind fun bt328 => (if bt328.1 = 0 then (some (0, 0, 0, 0, 0, 0, 0)) else (some (bt328.1, bt328.2.1, bt328.2.2, wrap64 (Int.tdiv (Int.tmod (wrap64 ((Int.tmod (wrap64 (x0 + (wrap64 (60 * x1)))) 86400) + 86400)) 86400) 3600), Int.tmod (wrap64 (Int.tdiv (Int.tmod (wrap64 ((Int.tmod (wrap64 (x0 + (wrap64 (60 * x1)))) 86400) + 86400)) 86400) 60)) 60, Int.tmod (Int.tmod (wrap64 ((Int.tmod (wrap64 (x0 + (wrap64 (60 * x1)))) 86400) + 86400)) 86400) 60, x1))))
def haversackref09_At.f (k : Nat) (a0 : Int) (a1 : Int) : Option (Int × Int × Int × Int × Int × Int × Int) := (haversackref09_in.f a1 (-1439) 1439).bind fun t326 => (if t326 = true then ((haversackref09_in.f a0 (-1000000000000) 1000000000000).bind fun t327 => (haversackref09_At.j0 k a0 a1 (!t327))) else (haversackref09_At.j0 k a0 a1 true))
theorem haversackref09_At.mono_l : ∀ k, (∀ y0 y1 y2, LeO (haversackref09_At.j0 k y0 y1 y2) (haversackref09_At.j0 (k + 1) y0 y1 y2))
  | 0 => fun _ _ _ r h => by simp [haversackref09_At.j0] at h
  | k + 1 => by
    have ih0 := haversackref09_At.mono_l k
    · intro y0 y1 y2
      unfold haversackref09_At.j0
      repeat' first
      | (with_reducible exact ih0 _ _ _)
      | (with_reducible exact haversackref09_Civil.mono _ _)
      | (with_reducible exact LeO.refl _)
      | (with_reducible exact LeO.none _)
      | (with_reducible refine LeO.ite ?_ ?_)
      | (with_reducible refine LeO.bind ?_ (fun _ => ?_))
      | exact ih0 _ _ _
      | exact haversackref09_Civil.mono _ _
      | exact LeO.none _
      | refine LeO.ite ?_ ?_
      | refine LeO.bind ?_ (fun _ => ?_)
theorem haversackref09_At.mono : ∀ a0 a1 k, LeO (haversackref09_At.f k a0 a1) (haversackref09_At.f (k + 1) a0 a1) := by
  intro a0 a1 k
  have ih0 := haversackref09_At.mono_l k
  unfold haversackref09_At.f
  repeat' first
      | (with_reducible exact ih0 _ _ _)
      | (with_reducible exact haversackref09_Civil.mono _ _)
      | (with_reducible exact LeO.refl _)
      | (with_reducible exact LeO.none _)
      | (with_reducible refine LeO.ite ?_ ?_)
      | (with_reducible refine LeO.bind ?_ (fun _ => ?_))
      | exact ih0 _ _ _
      | exact haversackref09_Civil.mono _ _
      | exact LeO.none _
      | refine LeO.ite ?_ ?_
      | refine LeO.bind ?_ (fun _ => ?_)
set_option maxHeartbeats 8000000 in
set_option maxRecDepth 100000 in
theorem haversackref09_At.calls (k : Nat) (a0 : Int) (a1 : Int) (r1 : Int) (r2 : Int) (r3 : Int) (r4 : Int) (r5 : Int) (r6 : Int) (r7 : Int) (w : World) (h : haversackref09_At.f k a0 a1 = some (r1, r2, r3, r4, r5, r6, r7)) :
    Calls Try.prog 25 #[.int .i64 a0, .int .i64 a1] w fun e w' => e = .returned (.agg #[.int .i64 r1, .int .i64 r2, .int .i64 r3, .int .i64 r4, .int .i64 r5, .int .i64 r6, .int .i64 r7]) ∧ Below w.heap.size w w' := by
  have hu23 := Try.underlying23
  have HB := Aside0.mk (Below.refl w.heap.size w)
  have H : ((haversackref09_in.f a1 (-1439) 1439).bind fun t326 => (if t326 = true then ((haversackref09_in.f a0 (-1000000000000) 1000000000000).bind fun t327 => (haversackref09_At.j0 k a0 a1 (!t327))) else (haversackref09_At.j0 k a0 a1 true))) = some (r1, r2, r3, r4, r5, r6, r7) := h
  clear h
  have HC3 := Aside0.mk H
  clear H
  go_enter Try.func25, Try.ntmps25
  go_upto_region 1 with (first | ((with_reducible refine gate_dst (N := 4) rfl ?_); refine box_event ?hg (N := 4) ?hd (cs := #[.int .i64 0, .int .i64 0, .int .i64 0, .int .i64 0, .int .i64 0, .int .i64 0, .int .i64 0]) (t := 23) ?hr ?_; (case hd => rfl); (case hg => rfl); (case hr => first | (go_simp; done) | (go_simp; rfl)); intro gb325 hg w4 hbox hb; have n0_ := Aside0.mk (below_step (by repeat (first | (with_reducible first | exact HB.out | apply below_alloc | apply pw_below_drewN | apply below_drew1) | exact HB.out)) hb); have n1_ := Aside0.mk (hbox); have n2_ := Aside0.mk ((by rw [hg]; exact (below_size (by repeat (first | (with_reducible first | exact HB.out | apply below_alloc | apply pw_below_drewN | apply below_drew1) | exact HB.out))) : w.heap.size ≤ gb325)); have n3_ := Aside0.mk ((by rw [hg]; exact (below_size (by repeat (first | (with_reducible first | exact HB.out | apply below_alloc | apply pw_below_drewN | apply below_drew1) | exact HB.out))) : w.heap.size ≤ gb325)); clear HB; have HB := n0_; have BK325 := n1_; have GW325 := n2_; have GE325 := n3_; clear n0_ n1_ n2_ n3_; clear hb hbox hg))
  (try simp only [Act.put, List.setIfInBounds_toArray, List.set_cons_zero, List.set_cons_succ])
  go_cut [17] (fun v17 wc => ∃ (kq : Nat) (x17_2 : Bool), v17 = .bool x17_2 ∧ Aside0 (haversackref09_At.j0 kq a0 a1 x17_2 = some (r1, r2, r3, r4, r5, r6, r7)) ∧ Aside0 (kq ≤ k) ∧ Aside0 (wc.heap[gb325]? = some (.cells #[.int .i64 0, .int .i64 0, .int .i64 0, .int .i64 0, .int .i64 0, .int .i64 0, .int .i64 0] 23 (0, 0))) ∧ Aside0 (Below w.heap.size w wc))
  case first =>
    have H := HC3.out
    clear HC3
    replace H := Option.bind_eq_some_iff.mp H
    obtain ⟨t326, A50, H⟩ := H
    replace H : (if t326 = true then ((haversackref09_in.f a0 (-1000000000000) 1000000000000).bind fun t327 => (haversackref09_At.j0 k a0 a1 (!t327))) else (haversackref09_At.j0 k a0 a1 true)) = some (r1, r2, r3, r4, r5, r6, r7) := H
    have A5 := Aside0.mk A50
    clear A50
    by_cases c6 : t326 = true
    · subst c6
      have H1 : ((haversackref09_in.f a0 (-1000000000000) 1000000000000).bind fun t327 => (haversackref09_At.j0 k a0 a1 (!t327))) = some (r1, r2, r3, r4, r5, r6, r7) := by rw [if_pos rfl] at H; exact H
      clear H
      have H := H1
      clear H1
      replace H := Option.bind_eq_some_iff.mp H
      obtain ⟨t327, A70, H⟩ := H
      replace H : (haversackref09_At.j0 k a0 a1 (!t327)) = some (r1, r2, r3, r4, r5, r6, r7) := H
      have A7 := Aside0.mk A70
      clear A70
      have H' := Aside0.mk H
      clear H
      go_wp2_with (first | ((with_reducible refine gate_callee (f := 47) rfl ?_); refine goesL_ (some 11) rfl rfl Try.func47 (by kernel_rfl) rfl #[.int .i64 a1, .int .i64 (-1439), .int .i64 1439] rfl (by (try simp only [List.map_toArray, List.map_cons, List.map_nil]); first | done | rfl | (simp only [List.length_drop, List.length_take]; rfl)) ?_; (with_reducible refine (haversackref09_in.calls a1 (-1439) 1439 true _ A5.out).mono ?_); rintro e w' ⟨rfl, ⟨nd, rfl⟩⟩; refine ⟨_, rfl, ?_⟩) | (go_at_call 47; (with_reducible refine (haversackref09_in.calls a0 (-1000000000000) 1000000000000 t327 _ A7.out).mono ?_); rintro e w' ⟨rfl, ⟨nd, rfl⟩⟩))
      go_meet
      case rel => exact ⟨_, (!t327), (by first | with_reducible rfl | (simp only [ByteArray.size_append, ByteArray.size_extract, Nat.min_self, Nat.sub_zero, Go.Proofs.Ytooknjpdflokkaa.My.lit_size, List.size_toArray, List.length_cons, List.length_nil, Nat.reduceAdd, Nat.zero_add]; done) | rfl | (simp; done) | (simp [*]; done)), H', ⟨by first | omega | exact Nat.le_refl _⟩, ⟨by (with_reducible repeat (first | refine blk_drewN ?_ _ | refine blk_drew ?_ | refine blk_alloc ?_ _)); exact BK325.out⟩, ⟨by repeat (first | (with_reducible first | exact HB.out | apply below_alloc | apply pw_below_drewN | apply below_drew1 | refine below_set ?_ GE325.out) | exact HB.out)⟩⟩
    · replace c6 := Bool.eq_false_iff.mpr c6
      subst c6
      have H1 : (haversackref09_At.j0 k a0 a1 true) = some (r1, r2, r3, r4, r5, r6, r7) := by rw [if_neg (show ¬ (false = true) by decide)] at H; exact H
      clear H
      have H := H1
      clear H1
      have H' := Aside0.mk H
      clear H
      go_wp2_with (first | ((with_reducible refine gate_callee (f := 47) rfl ?_); refine goesL_ (some 11) rfl rfl Try.func47 (by kernel_rfl) rfl #[.int .i64 a1, .int .i64 (-1439), .int .i64 1439] rfl (by (try simp only [List.map_toArray, List.map_cons, List.map_nil]); first | done | rfl | (simp only [List.length_drop, List.length_take]; rfl)) ?_; (with_reducible refine (haversackref09_in.calls a1 (-1439) 1439 false _ A5.out).mono ?_); rintro e w' ⟨rfl, ⟨nd, rfl⟩⟩; refine ⟨_, rfl, ?_⟩))
      go_meet
      case rel => exact ⟨_, (true), (by first | with_reducible rfl | (simp only [ByteArray.size_append, ByteArray.size_extract, Nat.min_self, Nat.sub_zero, Go.Proofs.Ytooknjpdflokkaa.My.lit_size, List.size_toArray, List.length_cons, List.length_nil, Nat.reduceAdd, Nat.zero_add]; done) | rfl | (simp; done) | (simp [*]; done)), H', ⟨by first | omega | exact Nat.le_refl _⟩, ⟨by (with_reducible repeat (first | refine blk_drewN ?_ _ | refine blk_drew ?_ | refine blk_alloc ?_ _)); exact BK325.out⟩, ⟨by repeat (first | (with_reducible first | exact HB.out | apply below_alloc | apply pw_below_drewN | apply below_drew1 | refine below_set ?_ GE325.out) | exact HB.out)⟩⟩
  case rest =>
    clear HC3
    try clear c2
    try clear p2
    try clear c4
    try clear c6
    obtain ⟨kq, x17_2, rfl, HA, HJ2, BK325, HB⟩ := hcut
    cases kq with
    | zero => exact absurd HA.out (by simp [haversackref09_At.j0])
    | succ kj2 =>
      have H := HA.out
      clear HA
      simp only [haversackref09_At.j0] at H
      by_cases c8 : x17_2 = true
      · subst c8
        have H1 : (some (0, 0, 0, 0, 0, 0, 0)) = some (r1, r2, r3, r4, r5, r6, r7) := by rw [if_pos rfl] at H; exact H
        clear H
        have H := H1
        clear H1
        simp only [Option.some.injEq, Prod.mk.injEq] at H
        obtain ⟨rfl, rfl, rfl, rfl, rfl, rfl, rfl⟩ := H
        have hcz9_0 : wc.cell? ⟨gb325, 0, none⟩ = some (.int .i64 0) := (blk_cell BK325.out 0).trans rfl
        have hcz9_1 : wc.cell? ⟨gb325, 1, none⟩ = some (.int .i64 0) := (blk_cell BK325.out 1).trans rfl
        have hcz9_2 : wc.cell? ⟨gb325, 2, none⟩ = some (.int .i64 0) := (blk_cell BK325.out 2).trans rfl
        have hcz9_3 : wc.cell? ⟨gb325, 3, none⟩ = some (.int .i64 0) := (blk_cell BK325.out 3).trans rfl
        have hcz9_4 : wc.cell? ⟨gb325, 4, none⟩ = some (.int .i64 0) := (blk_cell BK325.out 4).trans rfl
        have hcz9_5 : wc.cell? ⟨gb325, 5, none⟩ = some (.int .i64 0) := (blk_cell BK325.out 5).trans rfl
        have hcz9_6 : wc.cell? ⟨gb325, 6, none⟩ = some (.int .i64 0) := (blk_cell BK325.out 6).trans rfl
        have hfz9_0 := blk_frozen BK325.out 0
        have hfz9_1 := blk_frozen BK325.out 1
        have hfz9_2 := blk_frozen BK325.out 2
        have hfz9_3 := blk_frozen BK325.out 3
        have hfz9_4 := blk_frozen BK325.out 4
        have hfz9_5 := blk_frozen BK325.out 5
        have hfz9_6 := blk_frozen BK325.out 6
        go_wp2
        refine bodyPost_ret (results_cell_row rfl _ _ gb325 23 #[.int .i64 0, .int .i64 0, .int .i64 0, .int .i64 0, .int .i64 0, .int .i64 0, .int .i64 0] (0, 0) _ rfl (by (with_reducible repeat (first | refine blk_drewN ?_ _ | refine blk_drew ?_ | refine blk_alloc ?_ _)); refine blk_put (cs := #[.int .i64 0, .int .i64 0, .int .i64 0, .int .i64 0, .int .i64 0, .int .i64 0, .int .i64 0]) ?_ 6 _ rfl; (with_reducible repeat (first | refine blk_drewN ?_ _ | refine blk_drew ?_ | refine blk_alloc ?_ _)); refine blk_put (cs := #[.int .i64 0, .int .i64 0, .int .i64 0, .int .i64 0, .int .i64 0, .int .i64 0, .int .i64 0]) ?_ 5 _ rfl; (with_reducible repeat (first | refine blk_drewN ?_ _ | refine blk_drew ?_ | refine blk_alloc ?_ _)); refine blk_put (cs := #[.int .i64 0, .int .i64 0, .int .i64 0, .int .i64 0, .int .i64 0, .int .i64 0, .int .i64 0]) ?_ 4 _ rfl; (with_reducible repeat (first | refine blk_drewN ?_ _ | refine blk_drew ?_ | refine blk_alloc ?_ _)); refine blk_put (cs := #[.int .i64 0, .int .i64 0, .int .i64 0, .int .i64 0, .int .i64 0, .int .i64 0, .int .i64 0]) ?_ 3 _ rfl; (with_reducible repeat (first | refine blk_drewN ?_ _ | refine blk_drew ?_ | refine blk_alloc ?_ _)); refine blk_put (cs := #[.int .i64 0, .int .i64 0, .int .i64 0, .int .i64 0, .int .i64 0, .int .i64 0, .int .i64 0]) ?_ 2 _ rfl; (with_reducible repeat (first | refine blk_drewN ?_ _ | refine blk_drew ?_ | refine blk_alloc ?_ _)); refine blk_put (cs := #[.int .i64 0, .int .i64 0, .int .i64 0, .int .i64 0, .int .i64 0, .int .i64 0, .int .i64 0]) ?_ 1 _ rfl; (with_reducible repeat (first | refine blk_drewN ?_ _ | refine blk_drew ?_ | refine blk_alloc ?_ _)); refine blk_put (cs := #[.int .i64 0, .int .i64 0, .int .i64 0, .int .i64 0, .int .i64 0, .int .i64 0, .int .i64 0]) ?_ 0 _ rfl; (with_reducible repeat (first | refine blk_drewN ?_ _ | refine blk_drew ?_ | refine blk_alloc ?_ _)); exact BK325.out) Try.underlying23 rfl (by kernel_rfl)) rfl ?_
        exact ⟨by first | rfl | (simp [errW_none, errW_some] <;> rfl) | (simp [*, errW_none, errW_some] <;> rfl), by repeat (first | (with_reducible first | exact HB.out | apply below_alloc | apply pw_below_drewN | apply below_drew1 | refine below_set ?_ GE325.out) | exact HB.out)⟩
      · replace c8 := Bool.eq_false_iff.mpr c8
        subst c8
        have H1 : ((haversackref09_Civil.f kj2 (wrap64 (Int.tdiv (wrap64 ((wrap64 (a0 + (wrap64 (60 * a1)))) - (Int.tmod (wrap64 ((Int.tmod (wrap64 (a0 + (wrap64 (60 * a1)))) 86400) + 86400)) 86400))) 86400))).bind fun bt328 => (if bt328.1 = 0 then (some (0, 0, 0, 0, 0, 0, 0)) else (some (bt328.1, bt328.2.1, bt328.2.2, wrap64 (Int.tdiv (Int.tmod (wrap64 ((Int.tmod (wrap64 (a0 + (wrap64 (60 * a1)))) 86400) + 86400)) 86400) 3600), Int.tmod (wrap64 (Int.tdiv (Int.tmod (wrap64 ((Int.tmod (wrap64 (a0 + (wrap64 (60 * a1)))) 86400) + 86400)) 86400) 60)) 60, Int.tmod (Int.tmod (wrap64 ((Int.tmod (wrap64 (a0 + (wrap64 (60 * a1)))) 86400) + 86400)) 86400) 60, a1)))) = some (r1, r2, r3, r4, r5, r6, r7) := by rw [if_neg (show ¬ (false = true) by decide)] at H; exact H
        clear H
        have H := H1
        clear H1
        replace H := Option.bind_eq_some_iff.mp H
        obtain ⟨⟨t328, t329, t330⟩, A100, H⟩ := H
        replace H : (if t328 = 0 then (some (0, 0, 0, 0, 0, 0, 0)) else (some (t328, t329, t330, wrap64 (Int.tdiv (Int.tmod (wrap64 ((Int.tmod (wrap64 (a0 + (wrap64 (60 * a1)))) 86400) + 86400)) 86400) 3600), Int.tmod (wrap64 (Int.tdiv (Int.tmod (wrap64 ((Int.tmod (wrap64 (a0 + (wrap64 (60 * a1)))) 86400) + 86400)) 86400) 60)) 60, Int.tmod (Int.tmod (wrap64 ((Int.tmod (wrap64 (a0 + (wrap64 (60 * a1)))) 86400) + 86400)) 86400) 60, a1))) = some (r1, r2, r3, r4, r5, r6, r7) := H
        have A10 := Aside0.mk A100
        clear A100
        by_cases c11 : t328 = 0
        · rw [if_pos c11] at H
          have c11b0 : (t328 == 0) = true := beq_iff_eq.mpr c11
          have c11b1 : (t328 != 0) = false := bne_eq_false_iff_eq.mpr c11
          clear c11
          simp only [Option.some.injEq, Prod.mk.injEq] at H
          obtain ⟨rfl, rfl, rfl, rfl, rfl, rfl, rfl⟩ := H
          go_wp2_with (first | ((with_reducible refine gate_callee (f := 19) rfl ?_); refine goesL_ (some 32) rfl rfl Try.func19 (by kernel_rfl) rfl #[.int .i64 (wrap64 (Int.tdiv (wrap64 ((wrap64 (a0 + (wrap64 (60 * a1)))) - (Int.tmod (wrap64 ((Int.tmod (wrap64 (a0 + (wrap64 (60 * a1)))) 86400) + 86400)) 86400))) 86400))] rfl (by (try simp only [List.map_toArray, List.map_cons, List.map_nil]); first | done | rfl | (simp only [List.length_drop, List.length_take]; rfl)) ?_; (with_reducible refine (haversackref09_Civil.calls kj2 (wrap64 (Int.tdiv (wrap64 ((wrap64 (a0 + (wrap64 (60 * a1)))) - (Int.tmod (wrap64 ((Int.tmod (wrap64 (a0 + (wrap64 (60 * a1)))) 86400) + 86400)) 86400))) 86400)) t328 t329 t330 _ A10.out).mono ?_); rintro e w12 ⟨rfl, hb⟩; refine ⟨_, rfl, ?_⟩; have n0_ := Aside0.mk (blk_below (g := gb325) (o := .cells #[.int .i64 0, .int .i64 0, .int .i64 0, .int .i64 0, .int .i64 0, .int .i64 0, .int .i64 0] 23 (0, 0)) (by (with_reducible repeat (first | refine blk_drewN ?_ _ | refine blk_drew ?_ | refine blk_alloc ?_ _)); exact BK325.out) hb); have n1_ := Aside0.mk (below_step (by repeat (first | (with_reducible first | exact HB.out | apply below_alloc | apply pw_below_drewN | apply below_drew1 | refine below_set ?_ GE325.out) | exact HB.out)) hb); clear BK325; clear HB; have BK325 := n0_; have HB := n1_; clear n0_ n1_; (try clear hb); (try clear hb2); (try clear hk); (try clear hi); have hcz13_0 : w12.cell? ⟨gb325, 0, none⟩ = some (.int .i64 0) := (blk_cell BK325.out 0).trans rfl; have hcz13_1 : w12.cell? ⟨gb325, 1, none⟩ = some (.int .i64 0) := (blk_cell BK325.out 1).trans rfl; have hcz13_2 : w12.cell? ⟨gb325, 2, none⟩ = some (.int .i64 0) := (blk_cell BK325.out 2).trans rfl; have hcz13_3 : w12.cell? ⟨gb325, 3, none⟩ = some (.int .i64 0) := (blk_cell BK325.out 3).trans rfl; have hcz13_4 : w12.cell? ⟨gb325, 4, none⟩ = some (.int .i64 0) := (blk_cell BK325.out 4).trans rfl; have hcz13_5 : w12.cell? ⟨gb325, 5, none⟩ = some (.int .i64 0) := (blk_cell BK325.out 5).trans rfl; have hcz13_6 : w12.cell? ⟨gb325, 6, none⟩ = some (.int .i64 0) := (blk_cell BK325.out 6).trans rfl; have hfz13_0 := blk_frozen BK325.out 0; have hfz13_1 := blk_frozen BK325.out 1; have hfz13_2 := blk_frozen BK325.out 2; have hfz13_3 := blk_frozen BK325.out 3; have hfz13_4 := blk_frozen BK325.out 4; have hfz13_5 := blk_frozen BK325.out 5; have hfz13_6 := blk_frozen BK325.out 6))
          refine bodyPost_ret (results_cell_row rfl _ _ gb325 23 #[.int .i64 0, .int .i64 0, .int .i64 0, .int .i64 0, .int .i64 0, .int .i64 0, .int .i64 0] (0, 0) _ rfl (by (with_reducible repeat (first | refine blk_drewN ?_ _ | refine blk_drew ?_ | refine blk_alloc ?_ _)); refine blk_put (cs := #[.int .i64 0, .int .i64 0, .int .i64 0, .int .i64 0, .int .i64 0, .int .i64 0, .int .i64 0]) ?_ 6 _ rfl; (with_reducible repeat (first | refine blk_drewN ?_ _ | refine blk_drew ?_ | refine blk_alloc ?_ _)); refine blk_put (cs := #[.int .i64 0, .int .i64 0, .int .i64 0, .int .i64 0, .int .i64 0, .int .i64 0, .int .i64 0]) ?_ 5 _ rfl; (with_reducible repeat (first | refine blk_drewN ?_ _ | refine blk_drew ?_ | refine blk_alloc ?_ _)); refine blk_put (cs := #[.int .i64 0, .int .i64 0, .int .i64 0, .int .i64 0, .int .i64 0, .int .i64 0, .int .i64 0]) ?_ 4 _ rfl; (with_reducible repeat (first | refine blk_drewN ?_ _ | refine blk_drew ?_ | refine blk_alloc ?_ _)); refine blk_put (cs := #[.int .i64 0, .int .i64 0, .int .i64 0, .int .i64 0, .int .i64 0, .int .i64 0, .int .i64 0]) ?_ 3 _ rfl; (with_reducible repeat (first | refine blk_drewN ?_ _ | refine blk_drew ?_ | refine blk_alloc ?_ _)); refine blk_put (cs := #[.int .i64 0, .int .i64 0, .int .i64 0, .int .i64 0, .int .i64 0, .int .i64 0, .int .i64 0]) ?_ 2 _ rfl; (with_reducible repeat (first | refine blk_drewN ?_ _ | refine blk_drew ?_ | refine blk_alloc ?_ _)); refine blk_put (cs := #[.int .i64 0, .int .i64 0, .int .i64 0, .int .i64 0, .int .i64 0, .int .i64 0, .int .i64 0]) ?_ 1 _ rfl; (with_reducible repeat (first | refine blk_drewN ?_ _ | refine blk_drew ?_ | refine blk_alloc ?_ _)); refine blk_put (cs := #[.int .i64 0, .int .i64 0, .int .i64 0, .int .i64 0, .int .i64 0, .int .i64 0, .int .i64 0]) ?_ 0 _ rfl; (with_reducible repeat (first | refine blk_drewN ?_ _ | refine blk_drew ?_ | refine blk_alloc ?_ _)); exact BK325.out) Try.underlying23 rfl (by kernel_rfl)) rfl ?_
          exact ⟨by first | rfl | (simp [errW_none, errW_some] <;> rfl) | (simp [*, errW_none, errW_some] <;> rfl), by repeat (first | (with_reducible first | exact HB.out | apply below_alloc | apply pw_below_drewN | apply below_drew1 | refine below_set ?_ GE325.out) | exact HB.out)⟩
        · rw [if_neg c11] at H
          have c11b0 : (t328 == 0) = false := beq_eq_false_iff_ne.mpr c11
          have c11b1 : (t328 != 0) = true := bne_iff_ne.mpr c11
          simp only [Option.some.injEq, Prod.mk.injEq] at H
          obtain ⟨rfl, rfl, rfl, rfl, rfl, rfl, rfl⟩ := H
          go_wp2_with (first | ((with_reducible refine gate_callee (f := 19) rfl ?_); refine goesL_ (some 32) rfl rfl Try.func19 (by kernel_rfl) rfl #[.int .i64 (wrap64 (Int.tdiv (wrap64 ((wrap64 (a0 + (wrap64 (60 * a1)))) - (Int.tmod (wrap64 ((Int.tmod (wrap64 (a0 + (wrap64 (60 * a1)))) 86400) + 86400)) 86400))) 86400))] rfl (by (try simp only [List.map_toArray, List.map_cons, List.map_nil]); first | done | rfl | (simp only [List.length_drop, List.length_take]; rfl)) ?_; (with_reducible refine (haversackref09_Civil.calls kj2 (wrap64 (Int.tdiv (wrap64 ((wrap64 (a0 + (wrap64 (60 * a1)))) - (Int.tmod (wrap64 ((Int.tmod (wrap64 (a0 + (wrap64 (60 * a1)))) 86400) + 86400)) 86400))) 86400)) t328 t329 t330 _ A10.out).mono ?_); rintro e w14 ⟨rfl, hb⟩; refine ⟨_, rfl, ?_⟩; have n0_ := Aside0.mk (blk_below (g := gb325) (o := .cells #[.int .i64 0, .int .i64 0, .int .i64 0, .int .i64 0, .int .i64 0, .int .i64 0, .int .i64 0] 23 (0, 0)) (by (with_reducible repeat (first | refine blk_drewN ?_ _ | refine blk_drew ?_ | refine blk_alloc ?_ _)); exact BK325.out) hb); have n1_ := Aside0.mk (below_step (by repeat (first | (with_reducible first | exact HB.out | apply below_alloc | apply pw_below_drewN | apply below_drew1 | refine below_set ?_ GE325.out) | exact HB.out)) hb); clear BK325; clear HB; have BK325 := n0_; have HB := n1_; clear n0_ n1_; (try clear hb); (try clear hb2); (try clear hk); (try clear hi); have hcz15_0 : w14.cell? ⟨gb325, 0, none⟩ = some (.int .i64 0) := (blk_cell BK325.out 0).trans rfl; have hcz15_1 : w14.cell? ⟨gb325, 1, none⟩ = some (.int .i64 0) := (blk_cell BK325.out 1).trans rfl; have hcz15_2 : w14.cell? ⟨gb325, 2, none⟩ = some (.int .i64 0) := (blk_cell BK325.out 2).trans rfl; have hcz15_3 : w14.cell? ⟨gb325, 3, none⟩ = some (.int .i64 0) := (blk_cell BK325.out 3).trans rfl; have hcz15_4 : w14.cell? ⟨gb325, 4, none⟩ = some (.int .i64 0) := (blk_cell BK325.out 4).trans rfl; have hcz15_5 : w14.cell? ⟨gb325, 5, none⟩ = some (.int .i64 0) := (blk_cell BK325.out 5).trans rfl; have hcz15_6 : w14.cell? ⟨gb325, 6, none⟩ = some (.int .i64 0) := (blk_cell BK325.out 6).trans rfl; have hfz15_0 := blk_frozen BK325.out 0; have hfz15_1 := blk_frozen BK325.out 1; have hfz15_2 := blk_frozen BK325.out 2; have hfz15_3 := blk_frozen BK325.out 3; have hfz15_4 := blk_frozen BK325.out 4; have hfz15_5 := blk_frozen BK325.out 5; have hfz15_6 := blk_frozen BK325.out 6))
          refine bodyPost_ret (results_cell_row rfl _ _ gb325 23 #[.int .i64 t328, .int .i64 t329, .int .i64 t330, .int .i64 (wrap64 (Int.tdiv (Int.tmod (wrap64 ((Int.tmod (wrap64 (a0 + (wrap64 (60 * a1)))) 86400) + 86400)) 86400) 3600)), .int .i64 (Int.tmod (wrap64 (Int.tdiv (Int.tmod (wrap64 ((Int.tmod (wrap64 (a0 + (wrap64 (60 * a1)))) 86400) + 86400)) 86400) 60)) 60), .int .i64 (Int.tmod (Int.tmod (wrap64 ((Int.tmod (wrap64 (a0 + (wrap64 (60 * a1)))) 86400) + 86400)) 86400) 60), .int .i64 a1] (0, 0) _ rfl (by (with_reducible repeat (first | refine blk_drewN ?_ _ | refine blk_drew ?_ | refine blk_alloc ?_ _)); refine blk_put (cs := #[.int .i64 t328, .int .i64 t329, .int .i64 t330, .int .i64 (wrap64 (Int.tdiv (Int.tmod (wrap64 ((Int.tmod (wrap64 (a0 + (wrap64 (60 * a1)))) 86400) + 86400)) 86400) 3600)), .int .i64 (Int.tmod (wrap64 (Int.tdiv (Int.tmod (wrap64 ((Int.tmod (wrap64 (a0 + (wrap64 (60 * a1)))) 86400) + 86400)) 86400) 60)) 60), .int .i64 (Int.tmod (Int.tmod (wrap64 ((Int.tmod (wrap64 (a0 + (wrap64 (60 * a1)))) 86400) + 86400)) 86400) 60), .int .i64 0]) ?_ 6 _ (by first | rfl | simp); (with_reducible repeat (first | refine blk_drewN ?_ _ | refine blk_drew ?_ | refine blk_alloc ?_ _)); refine blk_put (cs := #[.int .i64 t328, .int .i64 t329, .int .i64 t330, .int .i64 (wrap64 (Int.tdiv (Int.tmod (wrap64 ((Int.tmod (wrap64 (a0 + (wrap64 (60 * a1)))) 86400) + 86400)) 86400) 3600)), .int .i64 (Int.tmod (wrap64 (Int.tdiv (Int.tmod (wrap64 ((Int.tmod (wrap64 (a0 + (wrap64 (60 * a1)))) 86400) + 86400)) 86400) 60)) 60), .int .i64 0, .int .i64 0]) ?_ 5 _ (by first | rfl | simp); (with_reducible repeat (first | refine blk_drewN ?_ _ | refine blk_drew ?_ | refine blk_alloc ?_ _)); refine blk_put (cs := #[.int .i64 t328, .int .i64 t329, .int .i64 t330, .int .i64 (wrap64 (Int.tdiv (Int.tmod (wrap64 ((Int.tmod (wrap64 (a0 + (wrap64 (60 * a1)))) 86400) + 86400)) 86400) 3600)), .int .i64 0, .int .i64 0, .int .i64 0]) ?_ 4 _ (by first | rfl | simp); (with_reducible repeat (first | refine blk_drewN ?_ _ | refine blk_drew ?_ | refine blk_alloc ?_ _)); refine blk_put (cs := #[.int .i64 t328, .int .i64 t329, .int .i64 t330, .int .i64 0, .int .i64 0, .int .i64 0, .int .i64 0]) ?_ 3 _ (by first | rfl | simp); (with_reducible repeat (first | refine blk_drewN ?_ _ | refine blk_drew ?_ | refine blk_alloc ?_ _)); refine blk_put (cs := #[.int .i64 t328, .int .i64 t329, .int .i64 0, .int .i64 0, .int .i64 0, .int .i64 0, .int .i64 0]) ?_ 2 _ (by first | rfl | simp); (with_reducible repeat (first | refine blk_drewN ?_ _ | refine blk_drew ?_ | refine blk_alloc ?_ _)); refine blk_put (cs := #[.int .i64 t328, .int .i64 0, .int .i64 0, .int .i64 0, .int .i64 0, .int .i64 0, .int .i64 0]) ?_ 1 _ (by first | rfl | simp); (with_reducible repeat (first | refine blk_drewN ?_ _ | refine blk_drew ?_ | refine blk_alloc ?_ _)); refine blk_put (cs := #[.int .i64 0, .int .i64 0, .int .i64 0, .int .i64 0, .int .i64 0, .int .i64 0, .int .i64 0]) ?_ 0 _ (by first | rfl | simp); (with_reducible repeat (first | refine blk_drewN ?_ _ | refine blk_drew ?_ | refine blk_alloc ?_ _)); exact BK325.out) Try.underlying23 rfl (by kernel_rfl)) rfl ?_
          exact ⟨by first | rfl | (simp [errW_none, errW_some] <;> rfl) | (simp [*, errW_none, errW_some] <;> rfl), by repeat (first | (with_reducible first | exact HB.out | apply below_alloc | apply pw_below_drewN | apply below_drew1 | refine below_set ?_ GE325.out) | exact HB.out)⟩

end Go.Proofs.Ytooknjpdflokkaa.PP
