/- YtmpngedfnheilaaDoorMyKept, as far as ViewPlays needs it (prune.py). -/
import Derived.Test.YtmpngedfnheilaaDoorViewPlaysMyViewV
import Derived.Test.YtmpngedfnheilaaDoorViewPlaysPPx16
import Derived.Test.YtmpngedfnheilaaDoorViewPlaysPPx14
import Derived.Test.YtmpngedfnheilaaDoorViewPlaysPPx15
import Derived.Sort.Walk0
namespace Go.Proofs.YtmpngedfnheilaaDoor.PP
open Go.RowKit Go.Proofs.YtmpngedfnheilaaDoorW.PrintWords Go.Proofs.YtmpngedfnheilaaDoorW.PrintLast Go.Proofs.YtmpngedfnheilaaDoorW.PrintMore
open Go.Proofs.YtmpngedfnheilaaDoor.My
set_option linter.unusedVariables false
set_option linter.unusedSimpArgs false
abbrev bl (x : ByteArray) : List UInt8 := x.data.toList
theorem tl_bl (x : ByteArray) : x.toList = bl x := ByteArray.toList_eq x
theorem bl_inj {a b : ByteArray} (h : bl a = bl b) : a = b := ByteArray.ext (Array.toList_inj.1 h)
theorem bl_len (x : ByteArray) : (bl x).length = x.size := by
  show x.data.toList.length = x.data.size
  simp
theorem bt_nat (f : ByteArray) (i : Nat) (h : i < f.size) : bt f i = (((bl f)[i]'(by rw [bl_len]; exact h)).toNat : Int) := by
  unfold bt
  rw [dif_pos (by simpa using h)]
  rfl
/-- A byte that no flag may have. -/
def badI (c : Int) : Bool := decide (c < 33) || decide (c > 126) || decide (c = 40) || decide (c = 41) || decide (c = 123) || decide (c = 125) || decide (c = 37) || decide (c = 42) || decide (c = 34) || decide (c = 92) || decide (c = 91) || decide (c = 93) || decide (c = 60) || decide (c = 62)
def twelve : List UInt8 := [40, 41, 123, 125, 37, 42, 34, 92, 91, 93, 60, 62]
set_option maxRecDepth 100000 in
theorem idx_twelve : ∀ c : Fin 256, (decide (Lib.indexByte twelve (Nat.toUInt8 c.1) ≥ 0)) = (decide ((c.1 : Int) = 40) || decide ((c.1 : Int) = 41) || decide ((c.1 : Int) = 123) || decide ((c.1 : Int) = 125) || decide ((c.1 : Int) = 37) || decide ((c.1 : Int) = 42) || decide ((c.1 : Int) = 34) || decide ((c.1 : Int) = 92) || decide ((c.1 : Int) = 91) || decide ((c.1 : Int) = 93) || decide ((c.1 : Int) = 60) || decide ((c.1 : Int) = 62)) := by decide +kernel
theorem idx_bad (c : Int) (h : 0 ≤ c ∧ c ≤ 255) : ∃ t, strings_IndexByte.f (⟨#[40, 41, 123, 125, 37, 42, 34, 92, 91, 93, 60, 62]⟩ : ByteArray) c = some t ∧ (badI c = (decide (c < 33) || decide (c > 126) || decide (t ≥ 0))) := by
  refine ⟨_, rfl, ?_⟩
  have := idx_twelve ⟨c.toNat, by omega⟩
  simp only [show ((c.toNat : Nat) : Int) = c by omega] at this
  show badI c = (decide (c < 33) || decide (c > 126) || decide (Lib.indexByte twelve c.toNat.toUInt8 ≥ 0))
  rw [this]
  simp only [badI, Bool.or_assoc]
def anyBad (f : ByteArray) : Nat → Nat → Bool
  | 0, _ => false
  | n + 1, i => badI (bt f i) || anyBad f n (i + 1)
def allDig (f : ByteArray) : Nat → Nat → Bool
  | 0, _ => true
  | n + 1, i => (decide (48 ≤ bt f i) && decide (bt f i ≤ 57)) && allDig f n (i + 1)
theorem keptL1_ev (a : ByteArray) (ha : a.size ≤ 9223372036854775807) : ∀ (n i : Nat), i + n = a.size → Ev (fun k => search_kept.l1 k a (a.size : Int) i) (if anyBad a n i = true then ⟨#[]⟩ else a)
  | 0, i, h => Ev.now (fun k => by rw [search_kept.l1, if_neg (by omega)]; rfl)
  | n + 1, i, h => by
    have hr := bt_range a i
    obtain ⟨t, ht, hb⟩ := idx_bad (bt a i) hr
    have ih := keptL1_ev a ha n (i + 1) (by omega)
    unfold anyBad
    by_cases h1 : bt a i < 33
    · rw [show badI (bt a i) = true by rw [hb]; simp [h1], Bool.true_or, if_pos rfl]
      exact Ev.now (fun k => by rw [search_kept.l1, if_pos (by omega), if_pos (by omega), if_pos (by omega), if_pos h1])
    by_cases h2 : bt a i > 126
    · rw [show badI (bt a i) = true by rw [hb]; simp [h2], Bool.true_or, if_pos rfl]
      exact Ev.now (fun k => by rw [search_kept.l1, if_pos (by omega), if_pos (by omega), if_pos (by omega), if_neg h1, if_pos h2])
    by_cases h3 : t ≥ 0
    · rw [show badI (bt a i) = true by rw [hb]; simp [h3], Bool.true_or, if_pos rfl]
      exact Ev.now (fun k => by rw [search_kept.l1, if_pos (by omega), if_pos (by omega), if_pos (by omega), if_neg h1, if_neg h2, ht, Option.bind_some, if_pos h3])
    · rw [show badI (bt a i) = false by rw [hb]; simp [h1, h2, h3], Bool.false_or]
      exact Ev.go (fun k => by rw [search_kept.l1, if_pos (by omega), if_pos (by omega), if_pos (by omega), if_neg h1, if_neg h2, ht, Option.bind_some, if_neg h3, w64s (by omega)]) ih
set_option maxHeartbeats 1000000 in
theorem KeptL1_ev (a : ByteArray) (ha : a.size ≤ 9223372036854775807) : ∀ (n i : Nat) (d : Bool), i + n = a.size → Ev (fun k => haversackref16_Kept.l1 k a d i) (if anyBad a n i = true then ⟨#[]⟩ else if (d && allDig a n i) = true then ⟨#[]⟩ else a)
  | 0, i, d, h => by
    cases d with
    | true => exact Ev.now (fun k => by rw [haversackref16_Kept.l1, if_neg (by omega)]; rfl)
    | false => exact Ev.now (fun k => by rw [haversackref16_Kept.l1, if_neg (by omega)]; rfl)
  | n + 1, i, d, h => by
    have hI : (i : Int) < (a.size : Int) := by omega
    have h0 : (0 : Int) ≤ (i : Int) := by omega
    unfold anyBad allDig
    by_cases hb : badI (bt a i) = true
    · rw [hb, Bool.true_or, if_pos rfl]
      refine Ev.now (fun k => ?_)
      rw [haversackref16_Kept.l1, if_pos hI, if_pos h0]
      simp only [badI, Bool.or_eq_true, decide_eq_true_eq] at hb
      by_cases c1 : bt a i < 33
      · rw [if_pos c1]
      rw [if_neg c1]
      by_cases c2 : bt a i > 126
      · rw [if_pos c2]
      rw [if_neg c2]
      by_cases c3 : bt a i = 40
      · rw [if_pos c3]
      rw [if_neg c3]
      by_cases c4 : bt a i = 41
      · rw [if_pos c4]
      rw [if_neg c4]
      by_cases c5 : bt a i = 123
      · rw [if_pos c5]
      rw [if_neg c5]
      by_cases c6 : bt a i = 125
      · rw [if_pos c6]
      rw [if_neg c6]
      by_cases c7 : bt a i = 37
      · rw [if_pos c7]
      rw [if_neg c7]
      by_cases c8 : bt a i = 42
      · rw [if_pos c8]
      rw [if_neg c8]
      by_cases c9 : bt a i = 34
      · rw [if_pos c9]
      rw [if_neg c9]
      by_cases c10 : bt a i = 92
      · rw [if_pos c10]
      rw [if_neg c10]
      by_cases c11 : bt a i = 91
      · rw [if_pos c11]
      rw [if_neg c11]
      by_cases c12 : bt a i = 93
      · rw [if_pos c12]
      rw [if_neg c12]
      by_cases c13 : bt a i = 60
      · rw [if_pos c13]
      rw [if_neg c13]
      by_cases c14 : bt a i = 62
      · rw [if_pos c14]
      rw [if_neg c14]
      omega
    · have hbf : badI (bt a i) = false := by simpa using hb
      rw [hbf, Bool.false_or]
      simp only [badI, Bool.or_eq_false_iff, decide_eq_false_iff_not] at hbf
      obtain ⟨⟨⟨⟨⟨⟨⟨⟨⟨⟨⟨⟨⟨c1, c2⟩, c3⟩, c4⟩, c5⟩, c6⟩, c7⟩, c8⟩, c9⟩, c10⟩, c11⟩, c12⟩, c13⟩, c14⟩ := hbf
      have step : ∀ k, haversackref16_Kept.l1 (k + 1) a d i = (if d = true then (if (bt a i) ≥ 48 then (haversackref16_Kept.l1 k a (decide ((bt a i) ≤ 57)) ((i + 1 : Nat) : Int)) else (haversackref16_Kept.l1 k a false ((i + 1 : Nat) : Int))) else (haversackref16_Kept.l1 k a false ((i + 1 : Nat) : Int))) := fun k => by
        rw [haversackref16_Kept.l1, if_pos hI, if_pos h0, if_neg c1, if_neg c2, if_neg c3, if_neg c4, if_neg c5, if_neg c6, if_neg c7, if_neg c8, if_neg c9, if_neg c10, if_neg c11, if_neg c12, if_neg c13, if_neg c14, w64s (by omega)]
      cases d with
      | false =>
        have ih := KeptL1_ev a ha n (i + 1) false (by omega)
        simp only [Bool.false_and] at ih ⊢
        exact Ev.go (fun k => by rw [step, if_neg (by decide)]) ih
      | true =>
        by_cases h48 : bt a i ≥ 48
        · have ih := KeptL1_ev a ha n (i + 1) (decide (bt a i ≤ 57)) (by omega)
          rw [Bool.true_and, decide_eq_true (show 48 ≤ bt a i from h48), Bool.true_and]
          exact Ev.go (fun k => by rw [step, if_pos rfl, if_pos h48]) ih
        · have ih := KeptL1_ev a ha n (i + 1) false (by omega)
          rw [Bool.true_and, decide_eq_false (show ¬ 48 ≤ bt a i from h48), Bool.false_and, Bool.false_and]
          simp only [Bool.false_and] at ih
          exact Ev.go (fun k => by rw [step, if_pos rfl, if_neg h48]) ih
/-- The first of some that is the same in small letters. -/
def hitF (f : ByteArray) : List ByteArray → Option ByteArray
  | [] => none
  | s :: ss => if lowL (bl s) = lowL (bl f) then some s else hitF f ss
def five : List ByteArray := [(⟨#[92, 65, 110, 115, 119, 101, 114, 101, 100]⟩ : ByteArray), (⟨#[92, 68, 101, 108, 101, 116, 101, 100]⟩ : ByteArray), (⟨#[92, 68, 114, 97, 102, 116]⟩ : ByteArray), (⟨#[92, 70, 108, 97, 103, 103, 101, 100]⟩ : ByteArray), (⟨#[92, 83, 101, 101, 110]⟩ : ByteArray)]
theorem lower_is (a : ByteArray) (h : a.size ≤ 9223372036854775807) : ∃ r : ByteArray, words_Lower.f a = some r ∧ r.toList = lowL (bl a) := ⟨⟨(lowL a.data.toList).toArray⟩, by unfold words_Lower.f; rw [if_pos h], by rw [tl_bl]⟩
theorem rlower_is (a : ByteArray) (h : a.size ≤ 9223372036854775807) : ∃ r : ByteArray, haversackref08_Lower.f a = some r ∧ r.toList = lowL (bl a) := ⟨⟨(lowL a.data.toList).toArray⟩, by unfold haversackref08_Lower.f; rw [if_pos h], by rw [tl_bl]⟩
theorem keptL0_ev (a : ByteArray) (ys : List ByteArray) (ha : a.size ≤ 9223372036854775807) (hy : ∀ i : Nat, i < ys.length → (rdOf ByteArray.empty ys i).size ≤ 9223372036854775807) (hl : ys.length ≤ 1000) : ∀ (n i : Nat), i + n = ys.length → Ev (fun k => search_kept.l0 k a ys (ys.length : Int) i) ((hitF a (ys.drop i)).getD ⟨#[]⟩)
  | 0, i, h => by
    rw [List.drop_of_length_le (by omega)]
    exact Ev.now (fun k => by rw [search_kept.l0, if_neg (by omega)]; rfl)
  | n + 1, i, h => by
    obtain ⟨r1, h1, g1⟩ := lower_is _ (hy i (by omega))
    obtain ⟨r2, h2, g2⟩ := lower_is a ha
    rw [rdOf_drop ys i (by omega), hitF]
    by_cases he : lowL (bl (rdOf ByteArray.empty ys i)) = lowL (bl a)
    · rw [if_pos he]
      exact Ev.now (fun k => by rw [search_kept.l0, if_pos (by omega), if_pos (by omega), if_pos (by omega), h1, h2]; simp only [Option.bind_some]; rw [if_pos (by rw [g1, g2, he])]; rfl)
    · rw [if_neg he]
      refine Ev.go (fun k => ?_) (keptL0_ev a ys ha hy hl n (i + 1) (by omega))
      rw [search_kept.l0, if_pos (by omega), if_pos (by omega), if_pos (by omega), h1, h2]
      simp only [Option.bind_some]
      rw [if_neg (by rw [g1, g2]; exact he), w64s (by omega)]
theorem KeptL0_ev (a : ByteArray) (ys : List ByteArray) (ha : a.size ≤ 9223372036854775807) (hy : ∀ i : Nat, i < ys.length → (rdOf ByteArray.empty ys i).size ≤ 9223372036854775807) (hl : ys.length ≤ 1000) (r : ByteArray) (hT : Ev (fun k => if (a.size : Int) > 30 then (haversackref16_Kept.j1 k a true) else ((haversackref08_Lower.f a).bind fun t224 => (haversackref16_Kept.j1 k a (t224.toList == ([110, 105, 108] : List UInt8))))) r) : ∀ (n i : Nat), i + n = ys.length → Ev (fun k => haversackref16_Kept.l0 k a ys i) ((hitF a (ys.drop i)).getD r)
  | 0, i, h => by
    rw [List.drop_of_length_le (by omega)]
    exact Ev.go (fun k => by rw [haversackref16_Kept.l0, if_neg (by omega)]) hT
  | n + 1, i, h => by
    obtain ⟨r1, h1, g1⟩ := rlower_is _ (hy i (by omega))
    obtain ⟨r2, h2, g2⟩ := rlower_is a ha
    rw [rdOf_drop ys i (by omega), hitF]
    by_cases he : lowL (bl (rdOf ByteArray.empty ys i)) = lowL (bl a)
    · rw [if_pos he]
      exact Ev.now (fun k => by rw [haversackref16_Kept.l0, if_pos (by omega), if_pos (by omega), h1, h2]; simp only [Option.bind_some]; rw [if_pos (by rw [g1, g2, he])]; rfl)
    · rw [if_neg he]
      refine Ev.go (fun k => ?_) (KeptL0_ev a ys ha hy hl r hT n (i + 1) (by omega))
      rw [haversackref16_Kept.l0, if_pos (by omega), if_pos (by omega), h1, h2]
      simp only [Option.bind_some]
      rw [if_neg (by rw [g1, g2]; exact he), w64s (by omega)]
/-- A flag as it is kept. -/
def keptB (f : ByteArray) : ByteArray := (hitF f five).getD (if 30 < f.size ∨ lowL (bl f) = [110, 105, 108] ∨ anyBad f f.size 0 = true ∨ allDig f f.size 0 = true then ⟨#[]⟩ else f)
theorem five_small : ∀ i : Nat, i < five.length → (rdOf ByteArray.empty five i).size ≤ 9223372036854775807 := fun i hi => by
  simp only [five, List.length_cons, List.length_nil] at hi
  have : i = 0 ∨ i = 1 ∨ i = 2 ∨ i = 3 ∨ i = 4 := by omega
  rcases this with rfl | rfl | rfl | rfl | rfl <;> decide
theorem Kept_ev (a : ByteArray) (ha : a.size ≤ 9223372036854775807) : Ev (fun k => haversackref16_Kept.f k a) (keptB a) := by
  have hj : ∀ b : Bool, Ev (fun k => haversackref16_Kept.j1 k a b) (if b = true ∨ anyBad a a.size 0 = true ∨ allDig a a.size 0 = true then ⟨#[]⟩ else a) := fun b => by
    cases b with
    | true => exact Ev.now (fun k => by rw [haversackref16_Kept.j1, if_pos rfl]; rfl)
    | false =>
      have h := KeptL1_ev a ha a.size 0 true (by omega)
      rw [Bool.true_and] at h
      refine Ev.go (f := fun k => haversackref16_Kept.l1 k a true ((0 : Nat) : Int)) (fun k => by rw [haversackref16_Kept.j1, if_neg (by decide)]; rfl) ?_
      by_cases h1 : anyBad a a.size 0 = true
      · rw [if_pos h1] at h; rw [if_pos (.inr (.inl h1))]; exact h
      · rw [if_neg h1] at h
        by_cases h2 : allDig a a.size 0 = true
        · rw [if_pos h2] at h; rw [if_pos (.inr (.inr h2))]; exact h
        · rw [if_neg h2] at h; rw [if_neg (by simp [h1, h2])]; exact h
  unfold haversackref16_Kept.f keptB
  refine KeptL0_ev a five ha five_small (by decide) _ ?_ 5 0 rfl
  by_cases h30 : (a.size : Int) > 30
  · simp only [if_pos h30]
    have := hj true
    rw [if_pos (.inl rfl)] at this
    rw [if_pos (.inl (by omega))]
    exact this
  · simp only [if_neg h30]
    obtain ⟨r, h1, g1⟩ := rlower_is a ha
    rw [h1]
    simp only [Option.bind_some]
    have := hj (r.toList == [110, 105, 108])
    rw [g1] at this ⊢
    have e : ((lowL (bl a) == [110, 105, 108]) = true ∨ anyBad a a.size 0 = true ∨ allDig a a.size 0 = true) = (30 < a.size ∨ lowL (bl a) = [110, 105, 108] ∨ anyBad a a.size 0 = true ∨ allDig a a.size 0 = true) := by
      simp [show ¬ 30 < a.size by omega]
    simp only [e] at this
    exact this
end Go.Proofs.YtmpngedfnheilaaDoor.PP
