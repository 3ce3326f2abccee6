/- YtmpngedfnheilaaDoorMyKeptB, as far as ViewPlays needs it (prune.py). -/
import Derived.Test.YtmpngedfnheilaaDoorViewPlaysMyKept
namespace Go.Proofs.YtmpngedfnheilaaDoor.PP
open Go.RowKit Go.Proofs.YtmpngedfnheilaaDoorW.PrintWords Go.Proofs.YtmpngedfnheilaaDoorW.PrintLast Go.Proofs.YtmpngedfnheilaaDoorW.PrintMore
open Go.Proofs.YtmpngedfnheilaaDoor.My
set_option linter.unusedVariables false
set_option linter.unusedSimpArgs false
noncomputable instance memD (a : ByteArray) (l : List ByteArray) : Decidable (a ∈ l) := Classical.propDecidable _
theorem hasPrefix92 (a : ByteArray) : ∃ b, strings_HasPrefix.f a ⟨#[92]⟩ = some b ∧ (b = true ↔ 0 < a.size ∧ bt a 0 = 92) := by
  unfold strings_HasPrefix.f stringslite_HasPrefix.f
  by_cases h : (a.size : Int) ≥ ((⟨#[92]⟩ : ByteArray).size : Int)
  · have h1 : 1 ≤ a.size := by
      have : (⟨#[92]⟩ : ByteArray).size = 1 := rfl
      omega
    rw [if_pos h, if_pos (by omega), if_pos (by omega)]
    refine ⟨_, rfl, ?_⟩
    rw [show ((((⟨#[92]⟩ : ByteArray).size : Int) : Int).toNat) = 1 from rfl, tl_bl, tl_bl]
    have e : bl (a.extract 0 1) = (bl a).take 1 := by
      show (a.extract 0 1).data.toList = a.data.toList.take 1
      simp [List.extract_eq_take_drop]
    have h0 := bt_nat a 0 (by omega)
    obtain ⟨c, cs, hc⟩ : ∃ c cs, bl a = c :: cs := by
      cases hb : bl a with
      | nil => have := bl_len a; rw [hb] at this; simp at this; omega
      | cons c cs => exact ⟨c, cs, rfl⟩
    have hbt : bt a 0 = (c.toNat : Int) := by
      have h2 := h0
      simp only [hc, List.getElem_cons_zero] at h2
      exact h2
    rw [e, hc, hbt]
    simp only [List.take_succ_cons, List.take_zero]
    show ([c] == [(92 : UInt8)]) = true ↔ _
    rw [beq_iff_eq]
    constructor
    · intro h; injection h with h; subst h; exact ⟨by omega, rfl⟩
    · rintro ⟨_, h⟩
      have : c = 92 := UInt8.toNat_inj.1 (by show c.toNat = 92; omega)
      rw [this]
  · rw [if_neg h]
    refine ⟨false, rfl, ?_⟩
    have : (⟨#[92]⟩ : ByteArray).size = 1 := rfl
    simp
    intro hs
    omega
theorem anyBad_at (f : ByteArray) : ∀ (n i : Nat), anyBad f n i = true ↔ ∃ j, i ≤ j ∧ j < i + n ∧ badI (bt f j) = true
  | 0, i => by simp [anyBad]; intro j h1 h2; omega
  | n + 1, i => by
    unfold anyBad
    rw [Bool.or_eq_true, anyBad_at f n (i + 1)]
    constructor
    · rintro (h | ⟨j, h1, h2, h3⟩)
      · exact ⟨i, Nat.le_refl _, by omega, h⟩
      · exact ⟨j, by omega, by omega, h3⟩
    · rintro ⟨j, h1, h2, h3⟩
      by_cases he : j = i
      · subst he; exact .inl h3
      · exact .inr ⟨j, by omega, by omega, h3⟩
theorem allDig_at (f : ByteArray) : ∀ (n i : Nat), allDig f n i = true ↔ ∀ j, i ≤ j → j < i + n → 48 ≤ bt f j ∧ bt f j ≤ 57
  | 0, i => by simp [allDig]; intro j h1 h2; omega
  | n + 1, i => by
    unfold allDig
    rw [Bool.and_eq_true, Bool.and_eq_true, decide_eq_true_eq, decide_eq_true_eq, allDig_at f n (i + 1)]
    constructor
    · rintro ⟨h, h2⟩ j hj1 hj2
      by_cases he : j = i
      · subst he; exact h
      · exact h2 j (by omega) (by omega)
    · intro h
      exact ⟨h i (Nat.le_refl _) (by omega), fun j h1 h2 => h j (by omega) (by omega)⟩
theorem lowC_92 (c : UInt8) (h : lowC c = 92) : c = 92 := by
  unfold lowC at h
  split at h
  · rename_i hc
    have h1 : 65 ≤ c.toNat := by have := hc.1; exact UInt8.le_iff_toNat_le.1 this
    have h2 : c.toNat ≤ 90 := by have := hc.2; exact UInt8.le_iff_toNat_le.1 this
    have h3 := congrArg UInt8.toNat h
    rw [UInt8.toNat_add] at h3
    have e1 : (32 : UInt8).toNat = 32 := rfl
    have e2 : (92 : UInt8).toNat = 92 := rfl
    rw [e1, e2] at h3
    omega
  · exact h
theorem hit_none (a : ByteArray) (h : ¬ (0 < a.size ∧ bt a 0 = 92)) : hitF a five = none := by
  have key : ∀ s : ByteArray, (∃ cs, bl s = 92 :: cs) → lowL (bl s) ≠ lowL (bl a) := fun s ⟨cs, hs⟩ he => by
    rw [hs] at he
    cases hb : bl a with
    | nil => rw [hb] at he; simp [lowL] at he
    | cons c cr =>
      rw [hb] at he
      simp only [lowL, List.map_cons, List.cons.injEq] at he
      have hc : c = 92 := lowC_92 c (he.1.symm.trans (by decide))
      have hsz : 0 < a.size := by have := bl_len a; rw [hb] at this; simp at this; omega
      refine h ⟨hsz, ?_⟩
      have := bt_nat a 0 hsz
      simp only [hb, List.getElem_cons_zero, hc] at this
      exact this
  unfold five
  simp only [hitF]
  rw [if_neg (key _ ⟨_, rfl⟩), if_neg (key _ ⟨_, rfl⟩), if_neg (key _ ⟨_, rfl⟩), if_neg (key _ ⟨_, rfl⟩), if_neg (key _ ⟨_, rfl⟩)]
def tenD : List UInt8 := [48, 49, 50, 51, 52, 53, 54, 55, 56, 57]
set_option maxRecDepth 100000 in
theorem ten_is : ∀ c : Fin 256, tenD.contains (Nat.toUInt8 c.1) = (decide ((48 : Int) ≤ (c.1 : Int)) && decide ((c.1 : Int) ≤ 57)) := by decide +kernel
theorem ten_iff (c : UInt8) : tenD.contains c = true ↔ 48 ≤ (c.toNat : Int) ∧ (c.toNat : Int) ≤ 57 := by
  have := ten_is ⟨c.toNat, c.toNat_lt⟩
  simp only [show Nat.toUInt8 c.toNat = c from UInt8.ofNat_toNat] at this
  rw [this, Bool.and_eq_true, decide_eq_true_eq, decide_eq_true_eq]
theorem dw_nil {p : UInt8 → Bool} : ∀ l : List UInt8, l.dropWhile p = [] ↔ ∀ c ∈ l, p c = true
  | [] => by simp
  | c :: l => by
    rw [List.dropWhile_cons]
    by_cases h : p c = true
    · rw [if_pos h, dw_nil l]; simp [h]
    · rw [if_neg h]; simp [h]
theorem dw_head {p : UInt8 → Bool} : ∀ l : List UInt8, ∀ c cs, l.dropWhile p = c :: cs → p c = false
  | [], c, cs, h => by simp at h
  | a :: l, c, cs, h => by
    rw [List.dropWhile_cons] at h
    by_cases ha : p a = true
    · rw [if_pos ha] at h; exact dw_head l c cs h
    · rw [if_neg ha] at h
      injection h with h1 h2
      subst h1
      simpa using ha
theorem trim_nil (l : List UInt8) : Lib.trimS l tenD = [] ↔ ∀ c ∈ l, tenD.contains c = true := by
  unfold Lib.trimS Lib.trimLeftS Lib.trimRightS
  rw [dw_nil]
  constructor
  · intro h
    have hr : l.reverse.dropWhile (tenD.contains ·) = [] := by
      cases hd : l.reverse.dropWhile (tenD.contains ·) with
      | nil => rfl
      | cons c cs =>
        have h1 := dw_head _ c cs hd
        have h2 := h c (by rw [hd]; simp)
        simp only [h1] at h2
        cases h2
    intro c hc
    exact (dw_nil _).1 hr c (List.mem_reverse.2 hc)
  · intro h c hc
    have hr : l.reverse.dropWhile (tenD.contains ·) = [] := (dw_nil _).2 (fun c hc => h c (List.mem_reverse.1 hc))
    rw [hr] at hc
    cases hc
theorem dig_list (a : ByteArray) : (∀ c ∈ bl a, tenD.contains c = true) ↔ allDig a a.size 0 = true := by
  rw [allDig_at]
  constructor
  · intro h j _ hj
    have hj' : j < a.size := by omega
    rw [bt_nat a j hj']
    exact (ten_iff _).1 (h _ (List.getElem_mem _))
  · intro h c hc
    obtain ⟨j, hj, rfl⟩ := List.getElem_of_mem hc
    rw [bl_len] at hj
    have := h j (Nat.zero_le _) (by omega)
    rw [bt_nat a j hj] at this
    exact (ten_iff _).2 this
theorem kept_ev (a : ByteArray) (ha : a.size ≤ 9223372036854775807) : Ev (fun k => search_kept.f k a) (keptB a) := by
  obtain ⟨b, hb, hp⟩ := hasPrefix92 a
  unfold search_kept.f
  rw [hb]
  simp only [Option.bind_some]
  cases b with
  | true =>
    obtain ⟨h0, h92⟩ := hp.1 rfl
    simp only [if_true]
    have h := keptL0_ev a five ha five_small (by decide) 5 0 rfl
    have hbad : anyBad a a.size 0 = true := (anyBad_at a a.size 0).2 ⟨0, Nat.le_refl _, by omega, by show badI (bt a 0) = true; rw [h92]; decide⟩
    unfold keptB
    rw [if_pos (.inr (.inr (.inl hbad)))]
    exact h
  | false =>
    have hn := hit_none a (fun h => by have := hp.2 h; cases this)
    simp only [Bool.false_eq_true, if_false]
    unfold keptB
    rw [hn, Option.getD_none]
    have hj : ∀ b : Bool, Ev (fun k => search_kept.j1 k a b) (if b = true ∨ anyBad a a.size 0 = true then ⟨#[]⟩ else a) := fun b => by
      cases b with
      | true => exact Ev.now (fun k => by rw [search_kept.j1, if_pos rfl]; rfl)
      | false =>
        have h := keptL1_ev a ha a.size 0 (by omega)
        refine Ev.go (f := fun k => search_kept.l1 k a (a.size : Int) ((0 : Nat) : Int)) (fun k => by rw [search_kept.j1, if_neg (by decide)]; rfl) ?_
        simpa using h
    by_cases h30 : (a.size : Int) > 30
    · simp only [if_pos h30]
      have := hj true
      rw [if_pos (.inl rfl)] at this
      rw [if_pos (.inl (by omega))]
      exact this
    · simp only [if_neg h30]
      obtain ⟨t, ht, hz⟩ : ∃ t : ByteArray, strings_Trim.f a (⟨#[48, 49, 50, 51, 52, 53, 54, 55, 56, 57]⟩ : ByteArray) = some t ∧ (t.toList = ([] : List UInt8) ↔ allDig a a.size 0 = true) := by
        refine ⟨⟨(Lib.trimS a.data.toList tenD).toArray⟩, ?_, ?_⟩
        · unfold strings_Trim.f
          rw [if_pos ha, if_pos (by decide), if_pos (by decide)]
          rfl
        · rw [tl_bl]
          show Lib.trimS (bl a) tenD = [] ↔ _
          rw [trim_nil, dig_list]
      obtain ⟨u, hu, g2⟩ := lower_is a ha
      rw [ht, hu]
      simp only [Option.bind_some]
      by_cases hd : allDig a a.size 0 = true
      · simp only [if_pos (hz.2 hd)]
        have := hj true
        rw [if_pos (.inl rfl)] at this
        rw [if_pos (.inr (.inr (.inr hd)))]
        exact this
      · simp only [if_neg (fun h => hd (hz.1 h))]
        have := hj (u.toList == [110, 105, 108])
        rw [g2] at this ⊢
        have e : ((lowL (bl a) == [110, 105, 108]) = true ∨ anyBad a a.size 0 = true) = (30 < a.size ∨ lowL (bl a) = [110, 105, 108] ∨ anyBad a a.size 0 = true ∨ allDig a a.size 0 = true) := by
          simp [show ¬ 30 < a.size by omega, hd]
        simp only [e] at this
        exact this
noncomputable def accM : List ByteArray → List ByteArray → List ByteArray
  | [], acc => acc
  | x :: xs, acc => if bl (keptB x) = [] ∨ keptB x ∈ acc ∨ 20 ≤ acc.length then accM xs acc else accM xs (acc ++ [keptB x])
theorem index_ev (l : List ByteArray) (a : ByteArray) (hl : l.length ≤ 1000) : ∀ (n i : Nat), i + n = l.length → ∃ r : Int, Ev (fun k => slices_Index_string_string.l0 k l a (l.length : Int) i) r ∧ (r ≥ 0 ↔ a ∈ l.drop i)
  | 0, i, h => ⟨-1, Ev.now (fun k => by rw [slices_Index_string_string.l0, if_neg (by omega)]), by rw [List.drop_of_length_le (by omega)]; simp⟩
  | n + 1, i, h => by
    rw [rdOf_drop l i (by omega)]
    by_cases he : a = rdOf ByteArray.empty l i
    · exact ⟨(i : Int), Ev.now (fun k => by rw [slices_Index_string_string.l0, if_pos (by omega), if_pos (by omega), if_pos (by omega), if_pos (by rw [he])]), by simp [he]⟩
    · obtain ⟨r, h1, h2⟩ := index_ev l a hl n (i + 1) (by omega)
      refine ⟨r, Ev.go (fun k => by rw [slices_Index_string_string.l0, if_pos (by omega), if_pos (by omega), if_pos (by omega), if_neg (fun e => he (ba_toList_inj.1 e)), w64s (by omega)]) h1, ?_⟩
      rw [h2]
      simp [he]
theorem contains_ev (l : List ByteArray) (a : ByteArray) (hl : l.length ≤ 1000) : Ev (fun k => slices_Contains_string_string.f k l a) (decide (a ∈ l)) := by
  unfold slices_Contains_string_string.f slices_Index_string_string.f
  obtain ⟨r, h1, h2⟩ := index_ev l a hl l.length 0 (by omega)
  rw [List.drop_zero] at h2
  refine Ev.bd h1 ?_
  have : decide (a ∈ l) = decide (r ≥ 0) := by simp only [h2]
  rw [this]
  exact Ev.ret _
theorem in_l0 (l : List ByteArray) (a : ByteArray) (hl : l.length ≤ 1000) : ∀ (n i : Nat), i + n = l.length → Ev (fun k => haversackref16_in.l0 k a l i) (decide (a ∈ l.drop i))
  | 0, i, h => by
    rw [List.drop_of_length_le (by omega)]
    exact Ev.now (fun k => by rw [haversackref16_in.l0, if_neg (by omega)]; simp)
  | n + 1, i, h => by
    rw [rdOf_drop l i (by omega)]
    by_cases he : rdOf ByteArray.empty l i = a
    · rw [decide_eq_true (by rw [he]; exact List.mem_cons_self ..)]
      exact Ev.now (fun k => by rw [haversackref16_in.l0, if_pos (by omega), if_pos (by omega), if_pos (by rw [he])])
    · have ih := in_l0 l a hl n (i + 1) (by omega)
      have : decide (a ∈ rdOf ByteArray.empty l i :: l.drop (i + 1)) = decide (a ∈ l.drop (i + 1)) := by simp [Ne.symm he]
      rw [this]
      exact Ev.go (fun k => by rw [haversackref16_in.l0, if_pos (by omega), if_pos (by omega), if_neg (fun e => he (ba_toList_inj.1 e)), w64s (by omega)]) ih
theorem in_ev (l : List ByteArray) (a : ByteArray) (hl : l.length ≤ 1000) : Ev (fun k => haversackref16_in.f k a l) (decide (a ∈ l)) := by
  have := in_l0 l a hl l.length 0 (by omega)
  rwa [List.drop_zero] at this
end Go.Proofs.YtmpngedfnheilaaDoor.PP
