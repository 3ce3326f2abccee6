/-
  Seven bits read: names.Decode reads what names.Encode tells.
-/
import Derived.Test.YtnkibbfpmhgeaaaDoorMyNamesC
namespace Go.Proofs.YtnkibbfpmhgeaaaDoor.Pure
open Go.RowKit Go.Proofs.YtnkibbfpmhgeaaaDoor.PP Go.Proofs.YtnkibbfpmhgeaaaDoor.My Go.Proofs.YtnkibbfpmhgeaaaDoorW.PrintWords Go.Proofs.YtnkibbfpmhgeaaaDoorW.PrintLast
set_option linter.unusedVariables false
set_option linter.unusedSimpArgs false
theorem let_facts : ∀ v : Fin 64, Lib.indexByte L64 (let64 v.val) = (v.val : Int) ∧ let64 v.val ∈ L64 ∧ let64 v.val ≠ 45 ∧ 32 ≤ (let64 v.val).toNat ∧ (let64 v.val).toNat ≤ 126 := by decide +kernel
theorem let_idx (v : Nat) (h : v < 64) : Lib.indexByte L64 (let64 v) = (v : Int) := (let_facts ⟨v, h⟩).1
theorem let_mem (v : Nat) (h : v < 64) : let64 v ∈ L64 := (let_facts ⟨v, h⟩).2.1
theorem let_ne (v : Nat) (h : v < 64) : let64 v ≠ 45 := (let_facts ⟨v, h⟩).2.2.1
theorem val6 (G : List Nat) (h : isBits G) (h6 : G.length = 6) : val G < 64 := by
  have := val_lt G h
  rw [h6] at this
  exact this
/-- Each letter of a run is one of the 64. -/
theorem encFull_lets : ∀ n (l : List Nat), l.length ≤ n → isBits l → ∀ c, c ∈ (encFull l).1 → ∃ v, v < 64 ∧ c = let64 v := by
  intro n
  induction n with
  | zero => intro l h _ c hc; rw [encFull_short l (by omega)] at hc; cases hc
  | succ n ih =>
    intro l h hb c hc
    by_cases h6 : l.length < 6
    · rw [encFull_short l h6] at hc; cases hc
    · obtain ⟨G, R, rfl, hG⟩ := split6 l (by omega)
      rw [List.length_append] at h
      rw [encFull_cons G R hG] at hc
      rcases List.mem_cons.1 hc with rfl | hc
      · exact ⟨_, val6 G hb.left hG, rfl⟩
      · exact ih R (by omega) hb.right c hc
theorem encFull_len : ∀ n (l : List Nat), l.length ≤ n → l.length = 6 * (encFull l).1.length + (encFull l).2.length := by
  intro n
  induction n with
  | zero => intro l h; rw [encFull_short l (by omega)]; simp
  | succ n ih =>
    intro l h
    by_cases h6 : l.length < 6
    · rw [encFull_short l h6]; simp
    · obtain ⟨G, R, rfl, hG⟩ := split6 l (by omega)
      rw [List.length_append] at h
      rw [encFull_cons G R hG, List.length_append, hG, ih R (by omega)]
      simp only [List.length_cons]
      omega
theorem pad6_len (l : List Nat) : (pad6 l).length < 6 ∨ l.length = 0 := by
  unfold pad6
  split
  · left; simp
  · rename_i h
    left
    rw [List.length_replicate]
    have := List.length_pos_iff.2 h
    omega
theorem pad6_short (l : List Nat) : (pad6 l).length < 6 := by
  unfold pad6
  split
  · simp
  · rename_i h
    rw [List.length_replicate]
    have := List.length_pos_iff.2 h
    omega
theorem pad6_bits (l : List Nat) : isBits (pad6 l) := by
  unfold pad6
  split
  · intro b h; cases h
  · intro b h
    rw [(List.mem_replicate.1 h).2]; decide
theorem whole (T : List Nat) : ∃ m, (T ++ pad6 (encFull T).2).length = 6 * m := by
  have h := encFull_len T.length T (Nat.le_refl _)
  have h6 := (encFull_left T.length T (Nat.le_refl _)).1
  by_cases e : (encFull T).2 = []
  · refine ⟨(encFull T).1.length, ?_⟩
    rw [e] at h
    rw [List.length_append, pad6, if_pos e, h]; simp
  · refine ⟨(encFull T).1.length + 1, ?_⟩
    rw [List.length_append, pad6, if_neg e, List.length_replicate, h]
    omega
theorem enc6_lets (T : List Nat) (hT : isBits T) : ∀ c, c ∈ enc6 T → ∃ v, v < 64 ∧ c = let64 v := by
  rw [enc6_pad]
  exact encFull_lets _ _ (Nat.le_refl _) (hT.app (pad6_bits _))
/-- What a step of the reader takes apart. -/
theorem cut16 (P G R' : List Nat) (V z : List Nat) (h : P ++ (G ++ R') = uniBits V ++ z) (h6 : G.length = 6) (hz : z.length < 6) (h16 : 16 ≤ P.length + 6) (hb : isBits (P ++ G)) (hV : ∀ v, v ∈ V → v < 65536) :
    ∃ v V' Q, V = v :: V' ∧ v < 65536 ∧ P ++ G = bitsN 16 v ++ Q ∧ Q.length = P.length + 6 - 16 ∧ Q ++ R' = uniBits V' ++ z ∧ isBits Q := by
  cases V with
  | nil =>
    exfalso
    have := congrArg List.length h
    simp [uniBits] at this
    omega
  | cons v V' =>
    have e : uniBits (v :: V') = bitsN 16 v ++ uniBits V' := by simp [uniBits]
    rw [e, ← List.append_assoc, List.append_assoc (bitsN 16 v)] at h
    have hl : (P ++ G).length = P.length + 6 := by rw [List.length_append, h6]
    refine ⟨v, V', (P ++ G).drop 16, rfl, hV v (List.mem_cons_self ..), ?_, by rw [List.length_drop, hl], ?_, ?_⟩
    · have t1 : (P ++ G ++ R').take 16 = (P ++ G).take 16 := List.take_append_of_le_length (by omega)
      have t2 : (bitsN 16 v ++ (uniBits V' ++ z)).take 16 = bitsN 16 v := by
        rw [List.take_append_of_le_length (by rw [bitsN_len]; omega), List.take_of_length_le (by rw [bitsN_len]; omega)]
      have := congrArg (List.take 16) h
      rw [t1, t2] at this
      rw [← this, List.take_append_drop]
    · have t1 : (P ++ G ++ R').drop 16 = (P ++ G).drop 16 ++ R' := List.drop_append_of_le_length (by omega)
      have t2 : (bitsN 16 v ++ (uniBits V' ++ z)).drop 16 = uniBits V' ++ z := by
        rw [List.drop_append_of_le_length (by rw [bitsN_len]; omega), List.drop_eq_nil_iff.2 (by rw [bitsN_len]; omega), List.nil_append]
      have := congrArg (List.drop 16) h
      rw [t1, t2] at this
      exact this
    · intro b hb2
      exact hb b (List.mem_of_mem_drop hb2)
theorem unit_out (P G Q : List Nat) (v : Nat) (h : P ++ G = bitsN 16 v ++ Q) (hv : v < 65536) (hQ : isBits Q) : val (P ++ G) / 2 ^ Q.length % 65536 = v ∧ val (P ++ G) % 2 ^ Q.length = val Q := by
  have h1 := val_lt Q hQ
  rw [h, val_app, val_bitsN, Nat.mod_eq_of_lt (show v < 2 ^ 16 from hv)]
  constructor
  · rw [Nat.add_comm, Nat.mul_comm, Nat.add_mul_div_left _ _ (Nat.two_pow_pos _), Nat.div_eq_of_lt h1, Nat.zero_add, Nat.mod_eq_of_lt hv]
  · rw [Nat.add_comm, Nat.add_mul_mod_self_right, Nat.mod_eq_of_lt h1]
/-- names.run's units. -/
def emN (s : List Int × Nat) (u : Nat) : List Int × Nat :=
  if 55296 ≤ u ∧ u < 56320 then (s.1, u)
  else if (56320 ≤ u ∧ u < 57344) ∧ 0 < s.2 then (s.1 ++ [65536 + ((s.2 : Int) - 55296) * 1024 + u - 56320], 0)
  else (s.1 ++ [(u : Int)], s.2)
theorem run_fold : ∀ m (R : List Nat), R.length = 6 * m → isBits R → ∀ P, isBits P → P.length < 16 → ∀ V z, P ++ R = uniBits V ++ z → z.length < 6 → (∀ v, v ∈ V → v < 65536) → ∀ o h,
    ((encFull R).1.foldl runStep (o, h, val P, P.length)).1 = (V.foldl emN (o, h)).1 := by
  intro m
  induction m with
  | zero =>
    intro R hR _ P hP hPl V z h hz hV o hh
    obtain rfl : R = [] := List.eq_nil_of_length_eq_zero (by omega)
    cases V with
    | nil => rfl
    | cons v V' =>
      exfalso
      have := congrArg List.length h
      have e : (uniBits (v :: V')).length = 16 + (uniBits V').length := by simp [uniBits, bitsN_len]
      rw [List.length_append, List.length_append, e] at this
      simp at this; omega
  | succ m ih =>
    intro R hR hRb P hP hPl V z h hz hV o hh
    obtain ⟨G, R', rfl, hG⟩ := split6 R (by omega)
    rw [List.length_append, hG] at hR
    have hg := val6 G hRb.left hG
    have hp := val_lt P hP
    have hp16 : val P < 65536 := Nat.lt_of_lt_of_le hp (Nat.le_trans (Nat.pow_le_pow_right (by decide) (show P.length ≤ 16 by omega)) (by decide))
    have hx : (val P * 64 % 4294967296 ||| (Lib.indexByte L64 (let64 (val G))).toNat) = val (P ++ G) := by
      rw [let_idx _ hg, Int.toNat_natCast, Nat.mod_eq_of_lt (by omega), or_add6 _ _ hg, val_app, hG]
    have hb : isBits (P ++ G) := hP.app hRb.left
    rw [encFull_cons G R' hG, List.foldl_cons]
    by_cases h16 : P.length + 6 < 16
    · have e : runStep (o, hh, val P, P.length) (let64 (val G)) = (o, hh, val (P ++ G), (P ++ G).length) := by
        unfold runStep
        simp only [hx, if_pos h16, List.length_append, hG]
      rw [e]
      exact ih R' (by omega) hRb.right (P ++ G) hb (by rw [List.length_append, hG]; exact h16) V z (by rw [List.append_assoc]; exact h) hz hV o hh
    · obtain ⟨v, V', Q, rfl, hv, hPG, hQl, hQR, hQ⟩ := cut16 P G R' V z h hG hz (by omega) hb hV
      obtain ⟨hu, hr⟩ := unit_out P G Q v hPG hv hQ
      have e : runStep (o, hh, val P, P.length) (let64 (val G)) = ((emN (o, hh) v).1, (emN (o, hh) v).2, val Q, Q.length) := by
        unfold runStep emN
        simp only [hx, if_neg h16, ← hQl, hu, hr]
        split
        · rfl
        · split <;> rfl
      rw [e, List.foldl_cons]
      exact ih R' (by omega) hRb.right Q hQ (by omega) V' z hQR hz (fun v hv => hV v (List.mem_cons_of_mem _ hv)) _ _
theorem em_units (r : Nat) (hr : goodR r) (o : List Int) : (unitsN r).foldl emN (o, 0) = (o ++ [(r : Int)], 0) := by
  unfold unitsN goodR at *
  by_cases h : 65536 ≤ r
  · rw [if_pos h, List.foldl_cons, List.foldl_cons, List.foldl_nil]
    have e1 : emN (o, 0) (55296 + (r - 65536) / 1024) = (o, 55296 + (r - 65536) / 1024) := by unfold emN; rw [if_pos (by omega)]
    rw [e1]
    unfold emN
    rw [if_neg (by omega), if_pos ⟨by omega, by simp only; omega⟩]
    simp only [Prod.mk.injEq, List.append_cancel_left_eq, List.cons.injEq, and_true]
    omega
  · rw [if_neg h, List.foldl_cons, List.foldl_nil]
    unfold emN
    rw [if_neg (by omega), if_neg (by rintro ⟨h1, h2⟩; omega)]
theorem em_all : ∀ (q : List Nat), (∀ r, r ∈ q → goodR r) → ∀ o : List Int, (q.flatMap unitsN).foldl emN (o, 0) = (o ++ q.map (fun r : Nat => (r : Int)), 0) := by
  intro q
  induction q with
  | nil => intro _ o; simp
  | cons r q ih =>
    intro h o
    rw [List.flatMap_cons, List.foldl_append, em_units r (h r (List.mem_cons_self ..)), ih (fun x hx => h x (List.mem_cons_of_mem _ hx))]
    simp
theorem unitsN_lt (r : Nat) (h : goodR r) : ∀ u, u ∈ unitsN r → u < 65536 := by
  intro u hu
  unfold unitsN goodR at *
  split at hu
  · simp at hu; omega
  · simp at hu; omega
theorem units_lt (q : List Nat) (h : ∀ r, r ∈ q → goodR r) : ∀ u, u ∈ q.flatMap unitsN → u < 65536 := by
  intro u hu
  obtain ⟨r, hr, hm⟩ := List.mem_flatMap.1 hu
  exact unitsN_lt r (h r hr) u hm
theorem runesB : ∀ (q : List Nat), (∀ r, r ∈ q → goodR r) → ∀ acc : List UInt8, (q.map (fun r : Nat => (r : Int))).foldl (fun s n => s ++ Utf8.encode n) (B acc) = B (acc ++ q.flatMap utf) := by
  intro q
  induction q with
  | nil => intro _ acc; simp
  | cons r q ih =>
    intro h acc
    rw [List.map_cons, List.foldl_cons, encN r (h r (List.mem_cons_self ..)), ba_app, ih (fun x hx => h x (List.mem_cons_of_mem _ hx))]
    simp
theorem run_is (q : List Nat) (h : ∀ r, r ∈ q → goodR r) : runS (B (enc6 (uniBits (q.flatMap unitsN)))) = B (q.flatMap utf) := by
  obtain ⟨m, hm⟩ := whole (uniBits (q.flatMap unitsN))
  have hb : isBits (uniBits (q.flatMap unitsN) ++ pad6 (encFull (uniBits (q.flatMap unitsN))).2) := (uniBits_bits _).app (pad6_bits _)
  have hf := run_fold m _ hm hb [] (fun b hb => by cases hb) (by simp) (q.flatMap unitsN) (pad6 (encFull (uniBits (q.flatMap unitsN))).2) (by simp) (pad6_short _) (units_lt q h) [] 0
  unfold runS
  rw [enc6_pad]
  have hl : (B (encFull (uniBits (q.flatMap unitsN) ++ pad6 (encFull (uniBits (q.flatMap unitsN))).2)).1).data.toList = (encFull (uniBits (q.flatMap unitsN) ++ pad6 (encFull (uniBits (q.flatMap unitsN))).2)).1 := by simp
  rw [hl]
  have e0 : (([], 0, 0, 0) : Rn) = ([], 0, val [], ([] : List Nat).length) := rfl
  rw [e0, hf, em_all q h, List.nil_append]
  exact runesB q h []

/-! ### names.Decode's steps -/
theorem ix_hit : ∀ (w rest : List UInt8) (c : UInt8), (∀ x, x ∈ w → x ≠ c) → Lib.indexByte (w ++ c :: rest) c = (w.length : Int)
  | [], rest, c, _ => by simp [Lib.indexByte]
  | b :: w, rest, c, h => by
    have hb : (b == c) = false := beq_eq_false_iff_ne.mpr (h b (List.mem_cons_self ..))
    rw [List.cons_append, Lib.indexByte, hb, ix_hit w rest c (fun x hx => h x (List.mem_cons_of_mem _ hx))]
    simp <;> omega
theorem trim_all (w cs : List UInt8) (h : ∀ c, c ∈ w → c ∈ cs) : Lib.trimS w cs = [] := by
  unfold Lib.trimS Lib.trimLeftS Lib.trimRightS
  have e : ∀ l : List UInt8, (∀ c, c ∈ l → c ∈ cs) → l.dropWhile (cs.contains ·) = [] := by
    intro l
    induction l with
    | nil => intro _; rfl
    | cons a l ih =>
      intro hl
      rw [List.dropWhile_cons, if_pos (by simpa using hl a (List.mem_cons_self ..)), ih (fun x hx => hl x (List.mem_cons_of_mem _ hx))]
  rw [e w.reverse (fun c hc => h c (by simpa using hc))]
  rfl
theorem decF_eq (k : Nat) (l b : List UInt8) : decF (k + 1) (B l) b =
    if l = [] then some b
    else if Lib.indexByte l 38 < 0 then some (b ++ l)
    else if Lib.indexByte (l.drop ((Lib.indexByte l 38).toNat + 1)) 45 < 0 then none
    else if Lib.trimS ((l.drop ((Lib.indexByte l 38).toNat + 1)).take (Lib.indexByte (l.drop ((Lib.indexByte l 38).toNat + 1)) 45).toNat) L64 = [] then
      decF k (B ((l.drop ((Lib.indexByte l 38).toNat + 1)).drop ((Lib.indexByte (l.drop ((Lib.indexByte l 38).toNat + 1)) 45).toNat + 1)))
        (b ++ l.take (Lib.indexByte l 38).toNat ++ (if (Lib.indexByte (l.drop ((Lib.indexByte l 38).toNat + 1)) 45).toNat = 0 then [38] else (runS (B ((l.drop ((Lib.indexByte l 38).toNat + 1)).take (Lib.indexByte (l.drop ((Lib.indexByte l 38).toNat + 1)) 45).toNat))).data.toList))
    else none := by
  have dl : ∀ l : List UInt8, (B l).data.toList = l := fun l => by simp
  have tk : ∀ (l : List UInt8) (i : Nat), (B l).extract 0 i = B (l.take i) := fun l i => by rw [ba_cut]; simp
  have e0 : (l.length = 0) = (l = []) := by simp
  rw [decF]
  simp only [ba_size, e0, dl, ba_drop, tk]
theorem decF_nil (k : Nat) (b : List UInt8) : decF (k + 1) (B []) b = some b := by rw [decF_eq, if_pos rfl]
theorem decF_plain (k : Nat) (c : UInt8) (l b : List UInt8) (hc : c ≠ 38) : decF (k + 1) (B (c :: l)) b = decF (k + 1) (B l) (b ++ [c]) := by
  have hcb : (c == 38) = false := beq_eq_false_iff_ne.mpr hc
  rw [decF_eq, decF_eq, if_neg (List.cons_ne_nil c l)]
  by_cases hl : l = []
  · subst hl
    simp [Lib.indexByte, hcb]
  · have hge := Lib.indexByte_ge l 38
    by_cases h : Lib.indexByte l 38 = -1
    · have h2 : Lib.indexByte (c :: l) 38 = -1 := by simp [Lib.indexByte, hcb, h]
      rw [h2, if_pos (show (-1 : Int) < 0 by decide), if_neg hl, h, if_pos (show (-1 : Int) < 0 by decide)]
      simp
    · obtain ⟨i, hi⟩ : ∃ i : Nat, Lib.indexByte l 38 = i := ⟨(Lib.indexByte l 38).toNat, by omega⟩
      have h2 : Lib.indexByte (c :: l) 38 = ((i + 1 : Nat) : Int) := by
        rw [Lib.indexByte, hcb, hi]
        simp <;> omega
      have e1 : ¬ ((i + 1 : Nat) : Int) < 0 := by omega
      have e2 : ¬ (i : Int) < 0 := by omega
      have e : b ++ c :: l.take i = b ++ [c] ++ l.take i := by simp
      simp only [h2, hi, if_neg e1, if_neg e2, if_neg hl, Int.toNat_natCast, List.drop_succ_cons, List.take_succ_cons, e]
theorem decF_run (k : Nat) (w rest b : List UInt8) (hw : ∀ c, c ∈ w → c ∈ L64) (h45 : ∀ c, c ∈ w → c ≠ 45) :
    decF (k + 1) (B (38 :: (w ++ 45 :: rest))) b = decF k (B rest) (b ++ (if w = [] then [38] else (runS (B w)).data.toList)) := by
  have h0 : Lib.indexByte (38 :: (w ++ 45 :: rest)) 38 = 0 := rfl
  have e1 : ¬ (w.length : Int) < 0 := by omega
  have e2 : (w ++ 45 :: rest).drop (w.length + 1) = rest := by rw [← List.drop_drop, List.drop_left]; rfl
  rw [decF_eq, if_neg (List.cons_ne_nil _ _), h0, if_neg (show ¬ (0 : Int) < 0 by decide)]
  simp only [show (0 : Int).toNat = 0 from rfl, List.drop_succ_cons, List.drop_zero, List.take_zero, ix_hit w rest 45 h45, if_neg e1, Int.toNat_natCast, List.take_left, trim_all w L64 hw, if_true, e2, List.append_nil]
  by_cases hn : w = []
  · subst hn; simp
  · have : ¬ w.length = 0 := by simpa using hn
    rw [if_neg hn, if_neg this]
theorem enc6_ne (q : List Nat) (h : q ≠ []) : enc6 (uniBits (q.flatMap unitsN)) ≠ [] := by
  intro e
  obtain ⟨m, hm⟩ := whole (uniBits (q.flatMap unitsN))
  rw [enc6_pad] at e
  have h1 := encFull_len _ _ (Nat.le_refl (uniBits (q.flatMap unitsN) ++ pad6 (encFull (uniBits (q.flatMap unitsN))).2).length)
  have h6 := (encFull_left _ _ (Nat.le_refl (uniBits (q.flatMap unitsN) ++ pad6 (encFull (uniBits (q.flatMap unitsN))).2).length)).1
  rw [e] at h1
  cases q with
  | nil => exact h rfl
  | cons r q =>
    have : 16 ≤ (uniBits ((r :: q).flatMap unitsN)).length := by
      rw [List.flatMap_cons, uniBits_app, List.length_append]
      have : 16 ≤ (uniBits (unitsN r)).length := by
        unfold unitsN
        split <;> simp [uniBits, bitsN_len]
      omega
    rw [List.length_append, List.length_nil, Nat.mul_zero, Nat.zero_add] at h1
    omega
theorem utf38 : utf 38 = [38] := by
  rw [utf_plain 38 ⟨by decide, by decide⟩]; rfl
theorem dec_enc : ∀ (rs : List Nat), (∀ r, r ∈ rs → goodR r) → ∀ (q : List Nat), (∀ r, r ∈ q → goodR r) → ∀ k b, (encR q rs).length < k → decF k (B (encR q rs)) b = some (b ++ (q ++ rs).flatMap utf) := by
  intro rs
  induction rs with
  | nil =>
    intro _ q hq k b hk
    rw [encR] at hk ⊢
    obtain ⟨k, rfl⟩ : ∃ j, k = j + 1 := ⟨k - 1, by omega⟩
    by_cases h : q = []
    · subst h
      rw [flushQ, if_pos rfl, decF_nil]; simp
    · rw [flushQ, if_neg h] at hk ⊢
      have hl := enc6_lets (uniBits (q.flatMap unitsN)) (uniBits_bits _)
      rw [decF_run k _ [] b (fun c hc => by obtain ⟨v, hv, rfl⟩ := hl c hc; exact let_mem v hv) (fun c hc => by obtain ⟨v, hv, rfl⟩ := hl c hc; exact let_ne v hv), if_neg (enc6_ne q h), run_is q hq]
      simp at hk
      obtain ⟨k, rfl⟩ : ∃ j, k = j + 1 := ⟨k - 1, by omega⟩
      rw [decF_nil]; simp
  | cons r rs ih =>
    intro hrs q hq k b hk
    have hr1 := hrs r (List.mem_cons_self ..)
    have hr2 := fun x hx => hrs x (List.mem_cons_of_mem _ hx)
    rw [encR] at hk ⊢
    by_cases hp : plainR r
    · rw [if_pos hp] at hk ⊢
      -- the plain byte and what is behind it
      have tail : ∀ k b, ((UInt8.ofNat r :: (if r = 38 then [45] else [])) ++ encR [] rs).length < k → decF k (B ((UInt8.ofNat r :: (if r = 38 then [45] else [])) ++ encR [] rs)) b = some (b ++ (r :: rs).flatMap utf) := by
        intro k b hk
        obtain ⟨k, rfl⟩ : ∃ j, k = j + 1 := ⟨k - 1, by omega⟩
        by_cases h38 : r = 38
        · subst h38
          have := decF_run k [] (encR [] rs) b (fun c hc => by cases hc) (fun c hc => by cases hc)
          rw [if_pos rfl] at this
          rw [if_pos rfl] at hk ⊢
          have e : (UInt8.ofNat 38 :: [45]) ++ encR [] rs = 38 :: ([] ++ 45 :: encR [] rs) := rfl
          rw [e, this, ih hr2 [] (fun x hx => by cases hx) k _ (by simp at hk; omega), List.flatMap_cons, utf38]
          simp
        · rw [if_neg h38] at hk ⊢
          have hne : UInt8.ofNat r ≠ 38 := by
            intro e
            have := congrArg UInt8.toNat e
            unfold plainR at hp
            rw [UInt8.toNat_ofNat'] at this
            have h2 : (38 : UInt8).toNat = 38 := rfl
            rw [h2] at this
            omega
          have e : [UInt8.ofNat r] ++ encR [] rs = UInt8.ofNat r :: encR [] rs := rfl
          rw [e] at hk ⊢
          rw [decF_plain k _ _ b hne, ih hr2 [] (fun x hx => by cases hx) (k + 1) _ (by simp at hk; omega), List.flatMap_cons, utf_plain r hp]
          simp
      rw [List.append_assoc] at hk ⊢
      by_cases h : q = []
      · subst h
        rw [flushQ, if_pos rfl, List.nil_append] at hk ⊢
        rw [tail k b hk]; rfl
      · rw [flushQ, if_neg h] at hk ⊢
        obtain ⟨k, rfl⟩ : ∃ j, k = j + 1 := ⟨k - 1, by omega⟩
        have hl := enc6_lets (uniBits (q.flatMap unitsN)) (uniBits_bits _)
        have e : (38 :: (enc6 (uniBits (q.flatMap unitsN)) ++ [45])) ++ ((UInt8.ofNat r :: (if r = 38 then [45] else [])) ++ encR [] rs) = 38 :: (enc6 (uniBits (q.flatMap unitsN)) ++ 45 :: ((UInt8.ofNat r :: (if r = 38 then [45] else [])) ++ encR [] rs)) := by simp
        rw [e] at hk ⊢
        rw [decF_run k _ _ b (fun c hc => by obtain ⟨v, hv, rfl⟩ := hl c hc; exact let_mem v hv) (fun c hc => by obtain ⟨v, hv, rfl⟩ := hl c hc; exact let_ne v hv), if_neg (enc6_ne q h), run_is q hq]
        rw [tail k _ (by simp only [List.length_cons, List.length_append] at hk ⊢; omega)]
        simp
    · rw [if_neg hp] at hk ⊢
      rw [ih hr2 (q ++ [r]) (fun x hx => (List.mem_append.1 hx).elim (hq x) (fun h => by rw [List.mem_singleton.1 h]; exact hr1)) k b hk]
      simp
theorem runes_good (l : List UInt8) : ∀ r, r ∈ runesOf l → goodR r := runesL_good _ _
theorem dec_encB (l : List UInt8) (hv : Lib.validD l = true) (k : Nat) (hk : (encB l).length < k) : decF k (B (encB l)) [] = some l := by
  have := dec_enc (runesOf l) (runes_good l) [] (fun x hx => by cases hx) k [] hk
  rw [List.nil_append, List.nil_append, runesOf, runesL_bytes _ l (Nat.le_refl _) hv] at this
  exact this

/-! ### how long a text gets -/
theorem foldE_good : ∀ (rs : List Nat) (s : St) (L : Nat), GoodE s L → GoodE (rs.foldl stepE s) (L + 30 * rs.length) := by
  intro rs
  induction rs with
  | nil => intro s L h; exact h
  | cons r rs ih =>
    intro s L h
    have := ih _ _ (goodE_step h r)
    rw [List.foldl_cons, List.length_cons, show L + 30 * (rs.length + 1) = L + 30 + 30 * rs.length by omega]
    exact this
theorem runesL_len : ∀ k l, (runesL k l).length ≤ l.length := by
  intro k
  induction k with
  | zero => intro l; exact Nat.zero_le _
  | succ k ih =>
    intro l
    rw [runesL]
    split
    · exact Nat.zero_le _
    · rename_i hne
      have hw := Lib.decodeL_width l
      have hl : 0 < l.length := List.length_pos_iff.2 hne
      have := ih (l.drop (Lib.decodeL l).2)
      rw [List.length_drop] at this
      rw [List.length_cons]; omega
theorem encB_len (l : List UInt8) : (encB l).length ≤ 30 * l.length + 2 := by
  unfold encB
  rw [← encL_is _ (fun r hr => good_le (runes_good l r hr))]
  have h := foldE_good (runesOf l) (([], 0, 0), false) 0 (by unfold GoodE; simp)
  have hn := runesL_len l.length l
  unfold encL
  simp only
  have e := endL_len ((runesOf l).foldl stepE (([], 0, 0), false)).1
  have h3 := h.2.2.1
  unfold runesOf at *
  split <;> omega
theorem bsz (b : ByteArray) : b.data.toList.length = b.size := by cases b; simp [ByteArray.size]
theorem decF_len : ∀ k (l b o : List UInt8), decF k (B l) b = some o → o.length ≤ b.length + 4 * l.length := by
  intro k
  induction k with
  | zero => intro l b o h; cases h
  | succ k ih =>
    intro l b o h
    rw [decF_eq] at h
    by_cases c1 : l = []
    · rw [if_pos c1] at h
      have h := Option.some.inj h
      subst h; omega
    · rw [if_neg c1] at h
      by_cases c2 : Lib.indexByte l 38 < 0
      · rw [if_pos c2] at h
        have h := Option.some.inj h
        subst h
        rw [List.length_append]; omega
      · rw [if_neg c2] at h
        have ha := index_lt c2
        generalize (Lib.indexByte l 38).toNat = a at h ha
        by_cases c3 : Lib.indexByte (l.drop (a + 1)) 45 < 0
        · rw [if_pos c3] at h; cases h
        · rw [if_neg c3] at h
          have hb := index_lt c3
          generalize (Lib.indexByte (l.drop (a + 1)) 45).toNat = e at h hb
          by_cases c4 : Lib.trimS ((l.drop (a + 1)).take e) L64 = []
          · rw [if_pos c4] at h
            have h1 := ih _ _ _ h
            have hr := runS_size (B ((l.drop (a + 1)).take e))
            rw [show (B ((l.drop (a + 1)).take e)).size = min e (l.drop (a + 1)).length by rw [ba_size, List.length_take]] at hr
            have hs : (runS (B ((l.drop (a + 1)).take e))).data.toList.length = (runS (B ((l.drop (a + 1)).take e))).size := bsz _
            have hl3 : (if e = 0 then [38] else (runS (B ((l.drop (a + 1)).take e))).data.toList).length ≤ 4 * e + 1 := by
              by_cases c5 : e = 0
              · rw [if_pos c5]; simp
              · rw [if_neg c5, hs]; omega
            rw [List.length_append, List.length_append, List.length_take, List.length_drop, List.length_drop] at h1
            rw [List.length_drop] at hb
            omega
          · rw [if_neg c4] at h; cases h
/-- What a text in seven bits is: none, or the one that it tells. -/
def nd (l : List UInt8) : Option (List UInt8) := match decF (l.length + 1) (B l) [] with
  | none => none
  | some o => if Lib.validD o = true ∧ encB o = l then some o else none
theorem nd_is (l o : List UInt8) : nd l = some o ↔ Lib.validD o = true ∧ encB o = l := by
  unfold nd
  constructor
  · intro h
    split at h
    · cases h
    · split at h
      · rename_i hc
        injection h with h
        subst h
        exact hc
      · cases h
  · rintro ⟨h1, h2⟩
    have := dec_encB o h1 (l.length + 1) (by rw [h2]; omega)
    rw [h2] at this
    rw [this]
    simp only
    rw [if_pos ⟨h1, h2⟩]
theorem names_decode_f (l : List UInt8) (hl : l.length ≤ 1000000) : names_Decode.f (B l) = some (match nd l with | none => (B [], 11) | some o => (B o, 0)) := by
  unfold names_Decode.f nd
  rw [ba_size, if_pos (by omega)]
  cases h : decF (l.length + 1) (B l) [] with
  | none => rfl
  | some o =>
    have ho := decF_len _ _ _ _ h
    simp only
    rw [names_encode_f o (by simp at ho; omega)]
    by_cases hv : Lib.validD o = true
    · rw [if_pos hv]
      simp only
      by_cases he : encB o = l
      · rw [if_pos (show True ∧ B (encB o) = B l from ⟨trivial, by rw [he]⟩), if_pos ⟨hv, he⟩]
      · rw [if_neg, if_neg (fun x => he x.2)]
        rintro ⟨_, h2⟩
        exact he (by have := congrArg (fun b : ByteArray => b.data.toList) h2; simpa using this)
    · rw [if_neg hv]
      simp only
      rw [if_neg (fun x => by have := x.1; simp at this), if_neg (fun x => hv x.1)]
end Go.Proofs.YtnkibbfpmhgeaaaDoor.Pure
