/- YtkngjdhggcaonaaDoorPPx41, as far as HeaderEnvelopes needs it (prune.py). -/
import Derived.Test.YtkngjdhggcaonaaDoorHeaderEnvelopesPPx0
import Derived.Test.YtkngjdhggcaonaaDoorHeaderEnvelopesPPx27
import Derived.Test.YtkngjdhggcaonaaDoorHeaderEnvelopesPPx33
import Derived.Test.YtkngjdhggcaonaaDoorHeaderEnvelopesPPx39
import Derived.Test.YtkngjdhggcaonaaDoorHeaderEnvelopesPPx40
namespace Go.Proofs.YtkngjdhggcaonaaDoor.PP
open Go.RowKit Go.Proofs.YtkngjdhggcaonaaDoorW.PrintWords Go.Proofs.YtkngjdhggcaonaaDoorW.PrintLast Go.Proofs.YtkngjdhggcaonaaDoorW.PrintMore
attribute [local go_sem] max2_int min2_int max_two min_two max_three min_three max_four min_four   -- for this text's walks alone
open Go.Proofs.YtkngjdhggcaonaaDoor.My
set_option linter.unusedVariables false
set_option linter.unusedSimpArgs false
def header_Envelope.f (k : Nat) (l0 : List (S37)) : Option (List ByteArray × List ByteArray × (List (S33)) × (List (S33)) × (List (S33)) × (List (S33)) × (List (S33)) × (List (S33)) × List ByteArray × List ByteArray) := (header_first.f k l0 (⟨#[100, 97, 116, 101]⟩ : ByteArray)).bind fun t421 => ((header_first.f k l0 (⟨#[115, 117, 98, 106, 101, 99, 116]⟩ : ByteArray)).bind fun t424 => ((header_first.f k l0 (⟨#[105, 110, 45, 114, 101, 112, 108, 121, 45, 116, 111]⟩ : ByteArray)).bind fun t427 => ((header_first.f k l0 (⟨#[109, 101, 115, 115, 97, 103, 101, 45, 105, 100]⟩ : ByteArray)).bind fun t430 => ((header_people.f k l0 (⟨#[102, 114, 111, 109]⟩ : ByteArray)).bind fun t434 => ((header_people.f k l0 (⟨#[115, 101, 110, 100, 101, 114]⟩ : ByteArray)).bind fun t437 => ((header_people.f k l0 (⟨#[114, 101, 112, 108, 121, 45, 116, 111]⟩ : ByteArray)).bind fun t440 => ((header_people.f k l0 (⟨#[116, 111]⟩ : ByteArray)).bind fun t443 => ((header_people.f k l0 (⟨#[99, 99]⟩ : ByteArray)).bind fun t446 => ((header_people.f k l0 (⟨#[98, 99, 99]⟩ : ByteArray)).bind fun t449 => (if (t437.length : Int) = 0 then ((api_Address.f t434).bind fun t452 => (if (t440.length : Int) = 0 then ((api_Address.f t434).bind fun t455 => (some (t421, t424, t434, t452, t455, t443, t446, t449, t427, t430))) else (some (t421, t424, t434, t452, t440, t443, t446, t449, t427, t430)))) else (if (t440.length : Int) = 0 then ((api_Address.f t434).bind fun t458 => (some (t421, t424, t434, t437, t458, t443, t446, t449, t427, t430))) else (some (t421, t424, t434, t437, t440, t443, t446, t449, t427, t430)))))))))))))
def haversackref10_people.l0 : Nat → List (S37) → ByteArray → Int → Option ((List (S33)))
 | 0, _, _, _ => none
 | k + 1, x0, x1, x5 => if x5 < (x0.length : Int) then (if 0 ≤ x5 then ((haversackref08_Lower.f ((rd_T37 x0 x5).f0)).bind fun t462 => (if t462.toList = x1.toList then ((haversackref10_Addresses.f k ((rd_T37 x0 x5).f1)).bind fun t464 => (some t464)) else (haversackref10_people.l0 k x0 x1 (wrap64 (x5 + 1))))) else (none)) else (some ([] : List (S33)))
def haversackref10_people.f (k : Nat) (l0 : List (S37)) (a1 : ByteArray) : Option ((List (S33))) := haversackref10_people.l0 k l0 a1 0
set_option maxHeartbeats 8000000 in
set_option maxRecDepth 100000 in
theorem haversackref10_people.calls (k : Nat) (A0 : Option Addr) (c0 : Nat) (l0 : List (S37)) (a1 : ByteArray) (r : List (S33)) (w : World) (hr0 : Kd.C k37 w A0 l0.length l0) (hc0 : l0.length ≤ c0) (h : haversackref10_people.f k l0 a1 = some r) :
  Calls Tryd.prog 55 #[.slice A0 l0.length c0, .string a1] w fun e w' => ∃ v0_ : Value, e = .returned (v0_) ∧ Kd.R k33 33 w' w.heap.size (fun _ => True) v0_ r ∧ Below w.heap.size w w' := by
 have HR0 := Aside0.mk hr0
 have HC0 := Aside0.mk hc0
 clear hr0 hc0
 have HB := Aside0.mk (Below.refl w.heap.size w)
 have H : (haversackref10_people.l0 k l0 a1 0) = some r := h
 clear h
 have H' := Aside0.mk H
 clear H
 go_enter Tryd.func55, Tryd.ntmps55
 go_wp2
 go_loopg [5] k (fun kq v5 w' => ∃ (x5_1 : Int), v5 = .int .i64 x5_1 ∧ Aside0 (haversackref10_people.l0 kq l0 a1 x5_1 = some r) ∧ Aside0 (kq ≤ k) ∧ Aside0 (Below w.heap.size w w'))
 case atStart => exact ⟨(0), (by first | with_reducible rfl | (simp only [pps, Nat.reduceAdd, Int.toNat_natCast]; done) | rfl | (simp; done) | (simp [*]; done)), H', ⟨Nat.le_refl _⟩, ⟨by repeat (first | (with_reducible first | exact HB.out | apply below_alloc | apply pw_below_drewN | apply below_drew1) | exact HB.out)⟩⟩
 case round =>
  clear H'
  try clear p2
  obtain ⟨x5_1, rfl, HA, HK1, HB⟩ := hrel
  cases gk with
  | zero => exact absurd HA.out (by simp [haversackref10_people.l0])
  | succ k1 =>
   have H := HA.out
   clear HA
   simp only [haversackref10_people.l0] at H
   by_cases c3 : x5_1 < (l0.length : Int)
   ·
    rw [if_pos c3] at H
    have c3b0 : decide (x5_1 < (l0.length : Int)) = true := decide_eq_true c3
    clear c3
    by_cases c4 : 0 ≤ x5_1
    ·
     rw [if_pos c4] at H
     have c4b0 : decide (0 ≤ x5_1) = true := decide_eq_true c4
     clear c4
     replace H := Option.bind_eq_some_iff.mp H
     obtain ⟨t462, A50, H⟩ := H
     replace H : (if t462.toList = a1.toList then ((haversackref10_Addresses.f k1 ((rd_T37 l0 x5_1).f1)).bind fun t464 => (some t464)) else (haversackref10_people.l0 k1 l0 a1 (wrap64 (x5_1 + 1)))) = some r := H
     have A5 := Aside0.mk A50
     clear A50
     by_cases c6 : t462.toList = a1.toList
     ·
      rw [if_pos c6] at H
      have c6b0 : (t462.toList == a1.toList) = true := beq_iff_eq.mpr c6
      have c6b1 : (t462.toList != a1.toList) = false := bne_eq_false_iff_eq.mpr c6
      clear c6
      replace H := Option.bind_eq_some_iff.mp H
      obtain ⟨t464, A70, H⟩ := H
      replace H : (some t464) = some r := H
      have A7 := Aside0.mk A70
      clear A70
      obtain rfl := Option.some.inj H
      have p461 : 0 ≤ (x5_1 : Int) := of_decide_eq_true (by first | (with_reducible assumption) | assumption)
      have q461 : x5_1 < (l0.length : Int) := of_decide_eq_true (by first | (with_reducible assumption) | assumption)
      obtain ⟨ad461, e461, hx461_0, hx461_1⟩ := at_T37 HR0.out x5_1 p461 q461
      cases e461
      replace hx461_0 := (HB.out.cell (World.block_lt_of_cell? w _ hx461_0)).trans hx461_0
      replace hx461_1 := (HB.out.cell (World.block_lt_of_cell? w _ hx461_1)).trans hx461_1
      replace p461 := eq_true p461
      replace q461 := eq_true q461
      go_wp2_with (first | ((with_reducible refine gate_callee (f := 75) rfl ?_); refine goesL_ (some 17) rfl rfl Tryd.func75 (by kernel_rfl) rfl #[.string ((rd_T37 l0 x5_1).f0)] rfl (by (try simp only [List.map_toArray, List.map_cons, List.map_nil]); first | done | rfl | (simp only [List.length_drop, List.length_take]; rfl)) ?_; (with_reducible refine (haversackref08_Lower.calls ((rd_T37 l0 x5_1).f0) t462 _ A5.out).mono ?_); rintro e w8 ⟨rfl, hb⟩; refine ⟨_, rfl, ?_⟩; have n0_ := Aside0.mk (below_step (by repeat (first | (with_reducible first | exact HB.out | apply below_alloc | apply pw_below_drewN | apply below_drew1) | exact HB.out)) hb); clear HB; have HB := n0_; clear n0_; (try clear hb); (try clear hb2); (try clear hk); (try clear hi); have p463 : 0 ≤ (x5_1 : Int) := of_decide_eq_true (by first | (with_reducible assumption) | assumption); have q463 : x5_1 < (l0.length : Int) := of_decide_eq_true (by first | (with_reducible assumption) | assumption); obtain ⟨ad463, e463, hx463_0, hx463_1⟩ := at_T37 HR0.out x5_1 p463 q463; obtain rfl : ad461 = ad463 := (by injection e463); replace hx463_0 := (HB.out.cell (World.block_lt_of_cell? w _ hx463_0)).trans hx463_0; replace hx463_1 := (HB.out.cell (World.block_lt_of_cell? w _ hx463_1)).trans hx463_1; replace p463 := eq_true p463; replace q463 := eq_true q463) | ((with_reducible refine gate_callee (f := 18) rfl ?_); refine goesL_ (some 25) rfl rfl Tryd.func18 (by kernel_rfl) rfl #[.string ((rd_T37 l0 x5_1).f1)] rfl (by (try simp only [List.map_toArray, List.map_cons, List.map_nil]); first | done | rfl | (simp only [List.length_drop, List.length_take]; rfl)) ?_; (with_reducible refine (haversackref10_Addresses.calls k1 ((rd_T37 l0 x5_1).f1) t464 _ A7.out).mono ?_); rintro e w9 ⟨v465, rfl, ho0, hb⟩; refine ⟨_, rfl, ?_⟩; have n0_ := Aside0.mk (Kd.R_lower ho0 (below_size (by repeat (first | (with_reducible first | exact HB.out | apply below_alloc | apply pw_below_drewN | apply below_drew1) | exact HB.out)))); have n1_ := Aside0.mk (below_step (by repeat (first | (with_reducible first | exact HB.out | apply below_alloc | apply pw_below_drewN | apply below_drew1) | exact HB.out)) hb); clear HB; have HO466 := n0_; have HB := n1_; clear n0_ n1_; (try clear hb); (try clear hb2); (try clear hk); (try clear hi); (try clear ho0)))
      go_ret
      exact ⟨_, by first | rfl | (simp [errW_none, errW_some] <;> rfl) | (simp [*, errW_none, errW_some] <;> rfl), by (with_reducible repeat (first | apply Kd.R_alloc | apply Kd.R_drewN | apply Kd.R_drew)); exact HO466.out, by repeat (first | (with_reducible first | exact HB.out | apply below_alloc | apply pw_below_drewN | apply below_drew1) | exact HB.out)⟩
     ·
      rw [if_neg c6] at H
      have c6b0 : (t462.toList == a1.toList) = false := beq_eq_false_iff_ne.mpr c6
      have c6b1 : (t462.toList != a1.toList) = true := bne_iff_ne.mpr c6
      have H' := Aside0.mk H
      clear H
      have p461 : 0 ≤ (x5_1 : Int) := of_decide_eq_true (by first | (with_reducible assumption) | assumption)
      have q461 : x5_1 < (l0.length : Int) := of_decide_eq_true (by first | (with_reducible assumption) | assumption)
      obtain ⟨ad461, e461, hx461_0, hx461_1⟩ := at_T37 HR0.out x5_1 p461 q461
      cases e461
      replace hx461_0 := (HB.out.cell (World.block_lt_of_cell? w _ hx461_0)).trans hx461_0
      replace hx461_1 := (HB.out.cell (World.block_lt_of_cell? w _ hx461_1)).trans hx461_1
      replace p461 := eq_true p461
      replace q461 := eq_true q461
      go_wp2_with (first | ((with_reducible refine gate_callee (f := 75) rfl ?_); refine goesL_ (some 17) rfl rfl Tryd.func75 (by kernel_rfl) rfl #[.string ((rd_T37 l0 x5_1).f0)] rfl (by (try simp only [List.map_toArray, List.map_cons, List.map_nil]); first | done | rfl | (simp only [List.length_drop, List.length_take]; rfl)) ?_; (with_reducible refine (haversackref08_Lower.calls ((rd_T37 l0 x5_1).f0) t462 _ A5.out).mono ?_); rintro e w10 ⟨rfl, hb⟩; refine ⟨_, rfl, ?_⟩; have n0_ := Aside0.mk (below_step (by repeat (first | (with_reducible first | exact HB.out | apply below_alloc | apply pw_below_drewN | apply below_drew1) | exact HB.out)) hb); clear HB; have HB := n0_; clear n0_; (try clear hb); (try clear hb2); (try clear hk); (try clear hi)))
      go_roundg k1
      case measure => have := HK1.out; omega
      case rel => exact ⟨(wrap64 (x5_1 + 1)), (by first | with_reducible rfl | (simp only [pps, Nat.reduceAdd, Int.toNat_natCast]; done) | rfl | (simp; done) | (simp [*]; done)), H', ⟨by have := HK1.out; omega⟩, ⟨by repeat (first | (with_reducible first | exact HB.out | apply below_alloc | apply pw_below_drewN | apply below_drew1) | exact HB.out)⟩⟩
    ·
     rw [if_neg c4] at H
     exact absurd H (by simp)
   ·
    rw [if_neg c3] at H
    have c3b0 : decide (x5_1 < (l0.length : Int)) = false := decide_eq_false c3
    clear c3
    obtain rfl := Option.some.inj H
    go_wp2
    go_ret
    exact ⟨_, by first | rfl | (simp [errW_none, errW_some] <;> rfl) | (simp [*, errW_none, errW_some] <;> rfl), by first | exact Kd.R_nil _ _ _ _ _ | exact Kd.N_nil _ _ _ _ _ | exact Kd.V_nil _ _ _ _ _ | exact Kd.Q_nil _ _ _ _ _ | exact Kd.S_nil _ _ _ _ _, by repeat (first | (with_reducible first | exact HB.out | apply below_alloc | apply pw_below_drewN | apply below_drew1) | exact HB.out)⟩
end Go.Proofs.YtkngjdhggcaonaaDoor.PP
