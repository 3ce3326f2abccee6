/- YtooknjpdflokkaaPPx15, as far as DatePrints needs it (prune.py). -/
import Derived.Test.YtooknjpdflokkaaDatePrintsPPx0
import Derived.Test.YtooknjpdflokkaaDatePrintsPPx11
namespace Go.Proofs.Ytooknjpdflokkaa.PP
open Go.RowKit Go.Proofs.YtooknjpdflokkaaW.PrintWords Go.Proofs.YtooknjpdflokkaaW.PrintLast Go.Proofs.YtooknjpdflokkaaW.PrintMore
attribute [local go_sem] max2_int min2_int max_two min_two max_three min_three max_four min_four   -- for this text's walks alone
open Go.Proofs.Ytooknjpdflokkaa.My
set_option linter.unusedVariables false
set_option linter.unusedSimpArgs false
def haversackref09_Lower.f (a0 : ByteArray) : Option ByteArray := if a0.size ≤ 9223372036854775807 then some ⟨(lowL a0.data.toList).toArray⟩ else none
set_option maxHeartbeats 1000000 in
set_option maxRecDepth 100000 in
theorem haversackref09_Lower.calls (a0 r : ByteArray) (w : World) (h : haversackref09_Lower.f a0 = some r) :
    Calls Try.prog 54 #[.string a0] w fun e w' => e = .returned (.string r) ∧ Below w.heap.size w w' := by
  unfold haversackref09_Lower.f at h
  split at h
  case isFalse => cases h
  rename_i hs
  injection h with h
  have kb := fun W => print_bytes (P := Try.prog) 9 72 5 Try.underlying9 Try.underlying72 Try.underlying5 a0 W
  have HS := Aside0.mk h
  clear h
  go_enter Try.func54, Try.ntmps54
  go_wp2
  go_loopw [4] (fun v wr => ∃ k : Nat, k ≤ a0.size ∧ v = .int .i64 k ∧ Aside0 (ConvInv lowC a0 w.heap.size 5 k wr) ∧ Aside0 (Below w.heap.size w wr)) (fun v _ => a0.size - (intOf v).toNat)
  case atStart => exact ⟨0, Nat.zero_le _, rfl, ⟨ConvInv.start lowC w 5 a0⟩, ⟨bytes_below (Below.refl _ _) (Nat.le_refl _) 5 a0⟩⟩
  case round =>
    obtain ⟨k, hk, rfl, HI, HB⟩ := hrel
    clear kb
    by_cases hlt : k < a0.size
    · obtain ⟨hc, hf⟩ := HI.out.cell hlt
      obtain ⟨c, hcc⟩ : ∃ c : Int, c = (a0[k].toNat : Int) := ⟨_, rfl⟩
      rw [← hcc] at hc
      have hc0 : 0 ≤ c := by omega
      have hc1 : c ≤ 255 := by have := a0[k].toNat_lt; omega
      have HC := Aside0.mk hcc
      clear hcc
      by_cases h1 : 65 ≤ c
      · by_cases h2 : c ≤ 90
        · have hp : ConvInv lowC a0 w.heap.size 5 (k + 1) (wr.setCell ⟨w.heap.size, k, none⟩ (.int .u8 (c + 32))) := by
            refine HI.out.put hlt (c + 32) ?_
            have h3 := HC.out
            have h4 : lowC a0[k] = a0[k] + 32 := by
              unfold lowC
              rw [if_pos ⟨UInt8.le_iff_toNat_le.2 (by simp; omega), UInt8.le_iff_toNat_le.2 (by simp; omega)⟩]
            rw [h4, UInt8.toNat_add, h3]
            simp; omega
          have HP := Aside0.mk hp
          clear hp
          have HB2 := Aside0.mk (HB.out.setCell (p := ⟨w.heap.size, k, none⟩) (Nat.le_refl _) (.int .u8 (c + 32)))
          go_wp2
          go_roundw
          case rel => exact ⟨k + 1, by omega, by go_num, HP, HB2⟩
          case measure => simp [intOf]; omega
        · have hp : ConvInv lowC a0 w.heap.size 5 (k + 1) wr := by
            refine HI.out.same hlt ?_
            have h3 := HC.out
            unfold lowC
            rw [if_neg (fun h => h2 (by have := UInt8.le_iff_toNat_le.1 h.2; simp at this; omega))]
          have HP := Aside0.mk hp
          clear hp
          go_wp2
          go_roundw
          case rel => exact ⟨k + 1, by omega, by go_num, HP, HB⟩
          case measure => simp [intOf]; omega
      · have hp : ConvInv lowC a0 w.heap.size 5 (k + 1) wr := by
          refine HI.out.same hlt ?_
          have h3 := HC.out
          unfold lowC
          rw [if_neg (fun h => h1 (by have := UInt8.le_iff_toNat_le.1 h.1; simp at this; omega))]
        have HP := Aside0.mk hp
        clear hp
        go_wp2
        go_roundw
        case rel => exact ⟨k + 1, by omega, by go_num, HP, HB⟩
        case measure => simp [intOf]; omega
    · obtain rfl : k = a0.size := by omega
      have hcv : ∀ c : Nat, (convert 72 9 (.slice (some ⟨w.heap.size, 0, none⟩) a0.size c)).run Try.prog wr = .ok (.string r) wr := by
        intro c
        rw [← HS.out, lowL, ← strOf_map]
        exact string_of_reads (P := Try.prog) Try.underlying72 Try.underlying5 Try.underlying9 (HI.out.reads hs)
      go_wp2
      go_ret
      exact ⟨rfl, HB.out⟩
def haversackref09_Month.l0 : Nat → ByteArray → Int → Option (Int)
  | 0, _, _ => none
  | k + 1, x0, x3 => if x3 ≤ 12 then ((haversackref09_Months.f x3).bind fun t205 => ((haversackref09_Lower.f t205).bind fun t206 => ((haversackref09_Lower.f x0).bind fun t207 => (if t206.toList = t207.toList then (some x3) else (haversackref09_Month.l0 k x0 (wrap64 (x3 + 1))))))) else (some 0)
def haversackref09_Month.f (k : Nat) (a0 : ByteArray) : Option (Int) := haversackref09_Month.l0 k a0 1
theorem haversackref09_Month.mono_l : ∀ k, (∀ y0 y1, LeO (haversackref09_Month.l0 k y0 y1) (haversackref09_Month.l0 (k + 1) y0 y1))
  | 0 => fun _ _ r h => by simp [haversackref09_Month.l0] at h
  | k + 1 => by
    have ih0 := haversackref09_Month.mono_l k
    · intro y0 y1
      unfold haversackref09_Month.l0
      repeat' first
      | (with_reducible exact ih0 _ _)
      | (with_reducible exact LeO.refl _)
      | (with_reducible exact LeO.none _)
      | (with_reducible refine LeO.ite ?_ ?_)
      | (with_reducible refine LeO.bind ?_ (fun _ => ?_))
      | exact ih0 _ _
      | exact LeO.none _
      | refine LeO.ite ?_ ?_
      | refine LeO.bind ?_ (fun _ => ?_)
theorem haversackref09_Month.mono : ∀ a0 k, LeO (haversackref09_Month.f k a0) (haversackref09_Month.f (k + 1) a0) := by
  intro a0 k
  have ih0 := haversackref09_Month.mono_l k
  unfold haversackref09_Month.f
  repeat' first
      | (with_reducible exact ih0 _ _)
      | (with_reducible exact LeO.refl _)
      | (with_reducible exact LeO.none _)
      | (with_reducible refine LeO.ite ?_ ?_)
      | (with_reducible refine LeO.bind ?_ (fun _ => ?_))
      | exact ih0 _ _
      | exact LeO.none _
      | refine LeO.ite ?_ ?_
      | refine LeO.bind ?_ (fun _ => ?_)
set_option maxHeartbeats 8000000 in
set_option maxRecDepth 100000 in
theorem haversackref09_Month.calls (k : Nat) (a0 : ByteArray) (r : Int) (w : World) (h : haversackref09_Month.f k a0 = some r) :
    Calls Try.prog 36 #[.string a0] w fun e w' => e = .returned (.int .i64 r) ∧ Below w.heap.size w w' := by
  have HB := Aside0.mk (Below.refl w.heap.size w)
  have H : (haversackref09_Month.l0 k a0 1) = some r := h
  clear h
  have H' := Aside0.mk H
  clear H
  go_enter Try.func36, Try.ntmps36
  go_wp2
  go_loopg [3] k (fun kq v3 w' => ∃ (x3_1 : Int), v3 = .int .i64 x3_1 ∧ Aside0 (haversackref09_Month.l0 kq a0 x3_1 = some r) ∧ Aside0 (kq ≤ k) ∧ Aside0 (Below w.heap.size w w'))
  case atStart => exact ⟨(1), (by first | with_reducible rfl | (simp only [ByteArray.size_append, ByteArray.size_extract, Nat.min_self, Nat.sub_zero, Go.Proofs.Ytooknjpdflokkaa.My.lit_size, List.size_toArray, List.length_cons, List.length_nil, Nat.reduceAdd, Nat.zero_add]; done) | rfl | (simp; done) | (simp [*]; done)), H', ⟨Nat.le_refl _⟩, ⟨by repeat (first | (with_reducible first | exact HB.out | apply below_alloc | apply pw_below_drewN | apply below_drew1) | exact HB.out)⟩⟩
  case round =>
    clear H'
    obtain ⟨x3_1, rfl, HA, HK1, HB⟩ := hrel
    cases gk with
    | zero => exact absurd HA.out (by simp [haversackref09_Month.l0])
    | succ k1 =>
      have H := HA.out
      clear HA
      simp only [haversackref09_Month.l0] at H
      by_cases c2 : x3_1 ≤ 12
      · rw [if_pos c2] at H
        have c2b0 : decide (x3_1 ≤ 12) = true := decide_eq_true c2
        clear c2
        replace H := Option.bind_eq_some_iff.mp H
        obtain ⟨t205, A30, H⟩ := H
        replace H : ((haversackref09_Lower.f t205).bind fun t206 => ((haversackref09_Lower.f a0).bind fun t207 => (if t206.toList = t207.toList then (some x3_1) else (haversackref09_Month.l0 k1 a0 (wrap64 (x3_1 + 1)))))) = some r := H
        have A3 := Aside0.mk A30
        clear A30
        replace H := Option.bind_eq_some_iff.mp H
        obtain ⟨t206, A40, H⟩ := H
        replace H : ((haversackref09_Lower.f a0).bind fun t207 => (if t206.toList = t207.toList then (some x3_1) else (haversackref09_Month.l0 k1 a0 (wrap64 (x3_1 + 1))))) = some r := H
        have A4 := Aside0.mk A40
        clear A40
        replace H := Option.bind_eq_some_iff.mp H
        obtain ⟨t207, A50, H⟩ := H
        replace H : (if t206.toList = t207.toList then (some x3_1) else (haversackref09_Month.l0 k1 a0 (wrap64 (x3_1 + 1)))) = some r := H
        have A5 := Aside0.mk A50
        clear A50
        by_cases c6 : t206.toList = t207.toList
        · rw [if_pos c6] at H
          have c6b0 : (t206.toList == t207.toList) = true := beq_iff_eq.mpr c6
          have c6b1 : (t206.toList != t207.toList) = false := bne_eq_false_iff_eq.mpr c6
          clear c6
          obtain rfl := Option.some.inj H
          go_wp2_with (first | ((with_reducible refine gate_callee (f := 40) rfl ?_); refine goesL_ (some 9) rfl rfl Try.func40 (by kernel_rfl) rfl #[.int .i64 x3_1] rfl (by (try simp only [List.map_toArray, List.map_cons, List.map_nil]); first | done | rfl | (simp only [List.length_drop, List.length_take]; rfl)) ?_; (with_reducible refine (haversackref09_Months.calls x3_1 t205 _ A3.out).mono ?_); rintro e w7 ⟨rfl, hb⟩; refine ⟨_, rfl, ?_⟩; have n0_ := Aside0.mk (below_step (by repeat (first | (with_reducible first | exact HB.out | apply below_alloc | apply pw_below_drewN | apply below_drew1) | exact HB.out)) hb); clear HB; have HB := n0_; clear n0_; (try clear hb); (try clear hb2); (try clear hk); (try clear hi)) | ((with_reducible refine gate_callee (f := 54) rfl ?_); refine goesL_ (some 10) rfl rfl Try.func54 (by kernel_rfl) rfl #[.string t205] rfl (by (try simp only [List.map_toArray, List.map_cons, List.map_nil]); first | done | rfl | (simp only [List.length_drop, List.length_take]; rfl)) ?_; (with_reducible refine (haversackref09_Lower.calls t205 t206 _ A4.out).mono ?_); rintro e w8 ⟨rfl, hb⟩; refine ⟨_, rfl, ?_⟩; have n0_ := Aside0.mk (below_step (by repeat (first | (with_reducible first | exact HB.out | apply below_alloc | apply pw_below_drewN | apply below_drew1) | exact HB.out)) hb); clear HB; have HB := n0_; clear n0_; (try clear hb); (try clear hb2); (try clear hk); (try clear hi)) | ((with_reducible refine gate_callee (f := 54) rfl ?_); refine goesL_ (some 12) rfl rfl Try.func54 (by kernel_rfl) rfl #[.string a0] rfl (by (try simp only [List.map_toArray, List.map_cons, List.map_nil]); first | done | rfl | (simp only [List.length_drop, List.length_take]; rfl)) ?_; (with_reducible refine (haversackref09_Lower.calls a0 t207 _ A5.out).mono ?_); rintro e w9 ⟨rfl, hb⟩; refine ⟨_, rfl, ?_⟩; have n0_ := Aside0.mk (below_step (by repeat (first | (with_reducible first | exact HB.out | apply below_alloc | apply pw_below_drewN | apply below_drew1) | exact HB.out)) hb); clear HB; have HB := n0_; clear n0_; (try clear hb); (try clear hb2); (try clear hk); (try clear hi)))
          go_ret
          exact ⟨by first | rfl | (simp [errW_none, errW_some] <;> rfl) | (simp [*, errW_none, errW_some] <;> rfl), by repeat (first | (with_reducible first | exact HB.out | apply below_alloc | apply pw_below_drewN | apply below_drew1) | exact HB.out)⟩
        · rw [if_neg c6] at H
          have c6b0 : (t206.toList == t207.toList) = false := beq_eq_false_iff_ne.mpr c6
          have c6b1 : (t206.toList != t207.toList) = true := bne_iff_ne.mpr c6
          have H' := Aside0.mk H
          clear H
          go_wp2_with (first | ((with_reducible refine gate_callee (f := 40) rfl ?_); refine goesL_ (some 9) rfl rfl Try.func40 (by kernel_rfl) rfl #[.int .i64 x3_1] rfl (by (try simp only [List.map_toArray, List.map_cons, List.map_nil]); first | done | rfl | (simp only [List.length_drop, List.length_take]; rfl)) ?_; (with_reducible refine (haversackref09_Months.calls x3_1 t205 _ A3.out).mono ?_); rintro e w10 ⟨rfl, hb⟩; refine ⟨_, rfl, ?_⟩; have n0_ := Aside0.mk (below_step (by repeat (first | (with_reducible first | exact HB.out | apply below_alloc | apply pw_below_drewN | apply below_drew1) | exact HB.out)) hb); clear HB; have HB := n0_; clear n0_; (try clear hb); (try clear hb2); (try clear hk); (try clear hi)) | ((with_reducible refine gate_callee (f := 54) rfl ?_); refine goesL_ (some 10) rfl rfl Try.func54 (by kernel_rfl) rfl #[.string t205] rfl (by (try simp only [List.map_toArray, List.map_cons, List.map_nil]); first | done | rfl | (simp only [List.length_drop, List.length_take]; rfl)) ?_; (with_reducible refine (haversackref09_Lower.calls t205 t206 _ A4.out).mono ?_); rintro e w11 ⟨rfl, hb⟩; refine ⟨_, rfl, ?_⟩; have n0_ := Aside0.mk (below_step (by repeat (first | (with_reducible first | exact HB.out | apply below_alloc | apply pw_below_drewN | apply below_drew1) | exact HB.out)) hb); clear HB; have HB := n0_; clear n0_; (try clear hb); (try clear hb2); (try clear hk); (try clear hi)) | ((with_reducible refine gate_callee (f := 54) rfl ?_); refine goesL_ (some 12) rfl rfl Try.func54 (by kernel_rfl) rfl #[.string a0] rfl (by (try simp only [List.map_toArray, List.map_cons, List.map_nil]); first | done | rfl | (simp only [List.length_drop, List.length_take]; rfl)) ?_; (with_reducible refine (haversackref09_Lower.calls a0 t207 _ A5.out).mono ?_); rintro e w12 ⟨rfl, hb⟩; refine ⟨_, rfl, ?_⟩; have n0_ := Aside0.mk (below_step (by repeat (first | (with_reducible first | exact HB.out | apply below_alloc | apply pw_below_drewN | apply below_drew1) | exact HB.out)) hb); clear HB; have HB := n0_; clear n0_; (try clear hb); (try clear hb2); (try clear hk); (try clear hi)))
          go_roundg k1
          case measure => have := HK1.out; omega
          case rel => exact ⟨(wrap64 (x3_1 + 1)), (by first | with_reducible rfl | (simp only [ByteArray.size_append, ByteArray.size_extract, Nat.min_self, Nat.sub_zero, Go.Proofs.Ytooknjpdflokkaa.My.lit_size, List.size_toArray, List.length_cons, List.length_nil, Nat.reduceAdd, Nat.zero_add]; done) | rfl | (simp; done) | (simp [*]; done)), H', ⟨by have := HK1.out; omega⟩, ⟨by repeat (first | (with_reducible first | exact HB.out | apply below_alloc | apply pw_below_drewN | apply below_drew1) | exact HB.out)⟩⟩
      · rw [if_neg c2] at H
        have c2b0 : decide (x3_1 ≤ 12) = false := decide_eq_false c2
        clear c2
        obtain rfl := Option.some.inj H
        go_wp2
        go_ret
        exact ⟨by first | rfl | (simp [errW_none, errW_some] <;> rfl) | (simp [*, errW_none, errW_some] <;> rfl), by repeat (first | (with_reducible first | exact HB.out | apply below_alloc | apply pw_below_drewN | apply below_drew1) | exact HB.out)⟩
end Go.Proofs.Ytooknjpdflokkaa.PP
