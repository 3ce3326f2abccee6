/-
  NamesJudges.
-/
import Derived.Test.YtnkibbfpmhgeaaaDoorPPx25
import Derived.Test.YtnkibbfpmhgeaaaDoorMyNamesP
import Derived.Lib.ValidLaws
namespace Go.Proofs.YtnkibbfpmhgeaaaDoor.Pure
open Go.RowKit Go.Proofs.YtnkibbfpmhgeaaaDoor.PP Go.Proofs.YtnkibbfpmhgeaaaDoor.My Go.Proofs.YtnkibbfpmhgeaaaDoorW.PrintWords Go.Proofs.YtnkibbfpmhgeaaaDoorW.PrintLast
set_option linter.unusedVariables false
set_option linter.unusedSimpArgs false

/-! ### which names are right -/
def badByte (c : UInt8) : Bool := badRune c.toNat
theorem high_ok (n : Nat) (h : 128 ≤ n) : badRune n = false := by
  unfold badRune
  rw [decide_eq_false (by omega), decide_eq_false (by omega), decide_eq_false (by omega), decide_eq_false (by omega)]; rfl
theorem decodeN_high (n b0 b1 b2 b3 : Nat) (h : 128 ≤ b0) :
    128 ≤ (Lib.decodeN n b0 b1 b2 b3).1 ∧ ((Lib.decodeN n b0 b1 b2 b3).2 = 1 ∨ ((Lib.decodeN n b0 b1 b2 b3).2 = 2 ∧ 1 < n ∧ 128 ≤ b1) ∨ ((Lib.decodeN n b0 b1 b2 b3).2 = 3 ∧ 2 < n ∧ 128 ≤ b1 ∧ 128 ≤ b2) ∨ ((Lib.decodeN n b0 b1 b2 b3).2 = 4 ∧ 3 < n ∧ 128 ≤ b1 ∧ 128 ≤ b2 ∧ 128 ≤ b3)) := by
  unfold Lib.decodeN
  rw [if_neg (by omega)]
  repeat' split
  all_goals (dsimp only; refine ⟨by omega, ?_⟩; first | exact Or.inl rfl | exact Or.inr (Or.inl ⟨rfl, by omega, by omega⟩) | exact Or.inr (Or.inr (Or.inl ⟨rfl, by omega, by omega, by omega⟩)) | exact Or.inr (Or.inr (Or.inr ⟨rfl, by omega, by omega, by omega, by omega⟩)))
theorem getB (l : List UInt8) (i : Nat) : (B l).get! i = l.getD i 0 := by
  show (l.toArray)[i]! = _
  by_cases h : i < l.length
  · rw [getElem!_pos _ _ (by simpa using h), getD_at l i h]; simp
  · rw [getElem!_neg _ _ (by simpa using h), List.getD_eq_getElem?_getD, List.getElem?_eq_none (by omega)]; rfl
theorem drop_any (l : List UInt8) (i : Nat) (h : i < l.length) (hb : 128 ≤ (l.getD i 0).toNat) : (l.drop i).any badByte = (l.drop (i + 1)).any badByte := by
  rw [List.drop_eq_getElem_cons h, List.any_cons, ← getD_at l i h]
  have : badByte (l.getD i 0) = false := high_ok _ hb
  rw [this, Bool.false_or]
theorem runes_bad (l : List UInt8) : ∀ k pos, l.length ≤ pos + k → (runesF (B l) k pos).any badRune = (l.drop pos).any badByte := by
  intro k
  induction k with
  | zero => intro pos h; rw [runesF, List.drop_eq_nil_iff.2 (by omega)]; rfl
  | succ k ih =>
    intro pos h
    rw [runesF]
    by_cases hp : pos < l.length
    · rw [if_pos (by rw [ba_size]; exact hp), Lib.decode_at, ba_size, getB, getB, getB, getB]
      by_cases h0 : (l.getD pos 0).toNat < 128
      · have e : ∀ n b1 b2 b3, Lib.decodeN n (l.getD pos 0).toNat b1 b2 b3 = ((l.getD pos 0).toNat, 1) := fun n b1 b2 b3 => by unfold Lib.decodeN; rw [if_pos h0]
        rw [e, List.any_cons, ih _ (by omega), List.drop_eq_getElem_cons hp, List.any_cons, getD_at l pos hp]
        rfl
      · obtain ⟨hr, hw⟩ := decodeN_high (l.length - pos) (l.getD pos 0).toNat (l.getD (pos + 1) 0).toNat (l.getD (pos + 2) 0).toNat (l.getD (pos + 3) 0).toNat (by omega)
        rw [List.any_cons, high_ok _ hr, Bool.false_or]
        have d0 := drop_any l pos hp (by omega)
        rcases hw with hw | ⟨hw, hn, h1⟩ | ⟨hw, hn, h1, h2⟩ | ⟨hw, hn, h1, h2, h3⟩
        · rw [hw, ih _ (by omega), d0]
        · rw [hw, ih _ (by omega), d0, drop_any l (pos + 1) (by omega) h1]
        · rw [hw, ih _ (by omega), d0, drop_any l (pos + 1) (by omega) h1, drop_any l (pos + 2) (by omega) h2]
        · rw [hw, ih _ (by omega), d0, drop_any l (pos + 1) (by omega) h1, drop_any l (pos + 2) (by omega) h2, drop_any l (pos + 3) (by omega) h3]
    · rw [if_neg (by rw [ba_size]; exact hp), List.drop_eq_nil_iff.2 (by omega)]; rfl
def rightL (l : List UInt8) : Bool := decide (l.length ≤ 40) && Lib.validD l && !l.any badByte && !(partsA [] l).any List.isEmpty && decide ((partsA [] l).length ≤ 8)
theorem names_right_f (l : List UInt8) (hl : l.length ≤ 1000000) : names_Right.f (B l) = some (rightL l) := by
  unfold names_Right.f rightB rightL
  rw [ba_size, if_pos (by omega), pieces_parts _ l (Nat.le_refl _), runes_bad l _ 0 (by omega), List.drop_zero, List.length_map, List.any_map]
  rfl
theorem rright_l1 (xs : List (List UInt8)) (hx : xs.length ≤ 1000000) : ∀ d i : Nat, i + d = xs.length → Ev (fun k => haversackref07_Right.l1 k (xs.map B) (i : Int)) (!(xs.drop i).any List.isEmpty && decide (xs.length ≤ 8)) := by
  intro d
  induction d with
  | zero =>
    intro i hi
    refine Ev.now fun k => ?_
    rw [haversackref07_Right.l1, List.length_map, if_neg (by omega), List.drop_eq_nil_iff.2 (by omega)]
    simp only [List.any_nil, Bool.not_false, Bool.true_and, Option.some.injEq, decide_eq_decide]
    omega
  | succ d ih =>
    intro i hi
    have hil : i < xs.length := by omega
    have hrd : rdOf ByteArray.empty (xs.map B) (i : Int) = B xs[i] := by rw [rd_at _ _ _ (by simpa using hil)]; simp
    rw [List.drop_eq_getElem_cons hil, List.any_cons]
    by_cases e : xs[i] = []
    · refine Ev.now fun k => ?_
      rw [haversackref07_Right.l1, List.length_map, if_pos (by omega), if_pos (by omega), hrd, ba_toList, if_pos e, e]
      rfl
    · have : xs[i].isEmpty = false := by simpa using e
      rw [this, Bool.false_or]
      refine Ev.go (fun k => ?_) (ih (i + 1) (by omega))
      rw [haversackref07_Right.l1, List.length_map, if_pos (by omega), if_pos (by omega), hrd, ba_toList, if_neg e, show wrap64 ((i : Int) + 1) = ((i + 1 : Nat) : Int) by rw [w64 (by omega)]; omega]
theorem rright_l0 (l : List UInt8) (hl : l.length ≤ 100000) : ∀ d i : Nat, i + d = l.length → Ev (fun k => haversackref07_Right.l0 k (B l) (i : Int)) (!(l.drop i).any badByte && (!(partsA [] l).any List.isEmpty && decide ((partsA [] l).length ≤ 8))) := by
  intro d
  induction d with
  | zero =>
    intro i hi
    have hpa := partsA_len l []
    apply Ev.go
    · intro k; rw [haversackref07_Right.l0, ba_size, if_neg (by omega)]
    · rw [List.drop_eq_nil_iff.2 (by omega)]
      refine Ev.bd (rparts_f l (by omega)) ?_
      exact rright_l1 (partsA [] l) (by omega) (partsA [] l).length 0 (by omega)
  | succ d ih =>
    intro i hi
    have hil : i < l.length := by omega
    rw [List.drop_eq_getElem_cons hil, List.any_cons]
    have h127 : ((l[i].toNat : Int) = 127) = (l[i] = 127) := u8i _ 127
    have h42 : ((l[i].toNat : Int) = 42) = (l[i] = 42) := u8i _ 42
    have h37 : ((l[i].toNat : Int) = 37) = (l[i] = 37) := u8i _ 37
    have hw : wrap64 ((i : Int) + 1) = ((i + 1 : Nat) : Int) := by rw [w64 (by omega)]; omega
    have hbt : bt (B l) (i : Int) = (l[i].toNat : Int) := by rw [btn, getD_at l i hil]
    by_cases c1 : l[i].toNat < 32
    · refine Ev.now fun k => ?_
      rw [haversackref07_Right.l0, ba_size, if_pos (by omega), if_pos (by omega), hbt, if_pos (by omega)]
      have : badByte l[i] = true := by unfold badByte badRune; rw [decide_eq_true c1]; rfl
      rw [this]; rfl
    · by_cases c2 : l[i].toNat = 127
      · refine Ev.now fun k => ?_
        rw [haversackref07_Right.l0, ba_size, if_pos (by omega), if_pos (by omega), hbt, if_neg (by omega), if_pos (by omega)]
        have : badByte l[i] = true := by unfold badByte badRune; rw [c2]; rfl
        rw [this]; rfl
      · by_cases c3 : l[i].toNat = 42
        · refine Ev.now fun k => ?_
          rw [haversackref07_Right.l0, ba_size, if_pos (by omega), if_pos (by omega), hbt, if_neg (by omega), if_neg (by omega), if_pos (by omega)]
          have : badByte l[i] = true := by unfold badByte badRune; rw [c3]; rfl
          rw [this]; rfl
        · by_cases c4 : l[i].toNat = 37
          · refine Ev.now fun k => ?_
            rw [haversackref07_Right.l0, ba_size, if_pos (by omega), if_pos (by omega), hbt, if_neg (by omega), if_neg (by omega), if_neg (by omega), if_pos (by omega)]
            have : badByte l[i] = true := by unfold badByte badRune; rw [c4]; rfl
            rw [this]; rfl
          · have : badByte l[i] = false := by unfold badByte badRune; rw [decide_eq_false c1, decide_eq_false c2, decide_eq_false c3, decide_eq_false c4]; rfl
            rw [this, Bool.false_or]
            refine Ev.go (fun k => ?_) (ih (i + 1) (by omega))
            rw [haversackref07_Right.l0, ba_size, if_pos (by omega), if_pos (by omega), hbt, if_neg (by omega), if_neg (by omega), if_neg (by omega), if_neg (by omega), hw]
theorem rright_f (l : List UInt8) (hl : l.length ≤ 100000) : Ev (fun k => haversackref07_Right.f k (B l)) (rightL l) := by
  unfold haversackref07_Right.f
  simp only [ba_size]
  have no : Ev (fun k => haversackref07_Right.j0 k (B l) true) false := by
    refine Ev.now fun k => ?_
    rw [haversackref07_Right.j0, if_pos rfl]
  unfold rightL
  by_cases c : (l.length : Int) > 40
  · simp only [if_pos c, decide_eq_false (show ¬ l.length ≤ 40 by omega), Bool.false_and]
    exact no
  · simp only [if_neg c, decide_eq_true (show l.length ≤ 40 by omega), Bool.true_and]
    refine Ev.bd (a := Lib.validD l) (Ev.pure (by unfold utf8_ValidString.f; rw [ba_size, if_pos (by omega)])) ?_
    cases Lib.validD l with
    | false => exact no
    | true =>
      simp only [Bool.true_and, Bool.not_true]
      apply Ev.go
      · intro k; rw [haversackref07_Right.j0, if_neg (by decide)]
      · have := rright_l0 l hl l.length 0 (by omega)
        rw [List.drop_zero, ← Bool.and_assoc] at this
        exact this

/-! ### how names are kept -/
def inbox : List UInt8 := [73, 78, 66, 79, 88]
def normL (l : List UInt8) : List UInt8 := if l.length < 5 ∨ (5 < l.length ∧ l.getD 5 0 ≠ 47) then l else if (l.take 5).map upC = inbox then inbox ++ l.drop 5 else l
theorem up_no47 (c : UInt8) (h : upC c ∈ inbox) : c ≠ 47 := by
  rintro rfl
  revert h
  decide
theorem norm_cut (l p0 : List UInt8) (r : List (List UInt8)) (hp : partsA [] l = p0 :: r) : normL l = if upL p0 = inbox then joinL (inbox :: r) else joinL (p0 :: r) := by
  have hj : joinL (p0 :: r) = l := by rw [← hp]; exact join_parts l []
  by_cases h : upL p0 = inbox
  · rw [if_pos h]
    have h5 : p0.length = 5 := by
      have := congrArg List.length h
      rw [upL, List.length_map] at this; exact this
    have hl : l = p0 ++ (if r = [] then [] else 47 :: joinL r) := by
      rw [← hj]
      by_cases e : r = []
      · subst e; rw [joinL_one]; simp
      · rw [if_neg e, joinL_cons _ _ e]
    have hr : joinL (inbox :: r) = inbox ++ (if r = [] then [] else 47 :: joinL r) := by
      by_cases e : r = []
      · subst e; rw [joinL_one]; simp
      · rw [if_neg e, joinL_cons _ _ e]
    obtain ⟨q, hq⟩ : ∃ q, (if r = [] then [] else (47 : UInt8) :: joinL r) = q := ⟨_, rfl⟩
    rw [hq] at hl hr
    rw [hr]
    clear hj hp
    subst hl
    have h1 : (p0 ++ q).take 5 = p0 := by rw [← h5, List.take_left]
    have h2 : (p0 ++ q).drop 5 = q := by rw [← h5, List.drop_left]
    unfold normL
    rw [if_neg, h1, h2, if_pos (show p0.map upC = inbox from h)]
    rintro (e | ⟨e1, e2⟩)
    · rw [List.length_append] at e; omega
    · apply e2
      rw [List.getD_eq_getElem?_getD, List.getElem?_append_right (by omega), h5, Nat.sub_self, ← hq]
      by_cases e : r = []
      · rw [if_pos e] at hq
        subst hq
        rw [List.length_append, List.length_nil] at e1; omega
      · rw [if_neg e]; rfl
  · rw [if_neg h, hj]
    unfold normL
    split
    · rfl
    · rename_i hc
      split
      · rename_i hu
        exfalso
        have hlen : 5 ≤ l.length := by
          rcases Nat.lt_or_ge l.length 5 with x | x
          · exact absurd (Or.inl x) hc
          · exact x
        have hno : ∀ x, x ∈ l.take 5 → x ≠ 47 := by
          intro x hx
          apply up_no47
          rw [← hu]
          exact List.mem_map_of_mem hx
        have : p0 = l.take 5 := by
          by_cases e : l.length = 5
          · have h1 := partsA_miss (l.take 5) [] hno
            rw [List.take_of_length_le (by omega), hp] at h1
            rw [List.take_of_length_le (by omega)]
            exact (List.cons.inj h1).1
          · have h5 : l.getD 5 0 = 47 := by
              by_cases x : l.getD 5 0 = 47
              · exact x
              · exact absurd (Or.inr ⟨by omega, x⟩) hc
            have h1 := partsA_hit (l.take 5) (l.drop 6) [] hno
            rw [← h5, getD_at l 5 (by omega), ← List.drop_eq_getElem_cons (by omega), List.take_append_drop, hp] at h1
            exact (List.cons.inj h1).1
        rw [this] at h
        exact h hu
      · rfl
theorem names_norm_l0 (l : List UInt8) (h5 : 5 ≤ l.length) (hl : l.length ≤ 1000000) : ∀ d i : Nat, i + d = 5 →
    Ev (fun k => names_Norm.l0 k (B l) (i : Int)) (B (if ((l.take 5).drop i).map upC = inbox.drop i then inbox ++ l.drop 5 else l)) := by
  intro d
  induction d with
  | zero =>
    intro i hi
    obtain rfl : i = 5 := by omega
    refine Ev.now fun k => ?_
    rw [names_Norm.l0, if_neg (by decide), ba_size, if_pos (by omega), if_pos (by omega), ba_drop, show (⟨#[73, 78, 66, 79, 88]⟩ : ByteArray) = B inbox from rfl, ba_app, if_pos]
    rw [List.drop_eq_nil_iff.2 (by simp; omega)]; rfl
  | succ d ih =>
    intro i hi
    have hil : i < l.length := by omega
    have hw : wrap64 ((i : Int) + 1) = ((i + 1 : Nat) : Int) := by rw [w64 (by omega)]; omega
    have hbt : bt (B l) (i : Int) = (l[i].toNat : Int) := by rw [btn, getD_at l i hil]
    have hin : i < inbox.length := by show i < 5; omega
    have hib : bt (⟨#[73, 78, 66, 79, 88]⟩ : ByteArray) (i : Int) = (inbox[i].toNat : Int) := by
      have := btn inbox i
      rw [getD_at inbox i hin] at this
      exact this
    have hd1 : (l.take 5).drop i = l[i] :: (l.take 5).drop (i + 1) := by
      rw [List.drop_eq_getElem_cons (by rw [List.length_take]; omega)]; simp
    have hd2 : inbox.drop i = inbox[i] :: inbox.drop (i + 1) := List.drop_eq_getElem_cons hin
    rw [hd1, hd2, List.map_cons]
    have nx := ih (i + 1) (by omega)
    have fin : Ev (fun k => names_Norm.j2 k (B l) (i : Int) (l[i].toNat : Int) (i : Int) (decide (97 ≤ l[i].toNat ∧ l[i].toNat ≤ 122))) (B (if upC l[i] :: ((l.take 5).drop (i + 1)).map upC = inbox[i] :: inbox.drop (i + 1) then inbox ++ l.drop 5 else l)) := by
      have hup : (upC l[i]).toNat = if 97 ≤ l[i].toNat ∧ l[i].toNat ≤ 122 then l[i].toNat - 32 else l[i].toNat := by
        unfold upC
        by_cases h : 97 ≤ l[i].toNat ∧ l[i].toNat ≤ 122
        · rw [if_pos ⟨UInt8.le_iff_toNat_le.2 h.1, UInt8.le_iff_toNat_le.2 h.2⟩, if_pos h]
          rw [UInt8.toNat_sub_of_le _ _ (UInt8.le_iff_toNat_le.2 (by have := h.1; simp; omega))]; rfl
        · rw [if_neg (fun (x : 97 ≤ l[i] ∧ l[i] ≤ 122) => h ⟨by have := UInt8.le_iff_toNat_le.1 x.1; simpa using this, by have := UInt8.le_iff_toNat_le.1 x.2; simpa using this⟩), if_neg h]
      by_cases e : upC l[i] = inbox[i]
      · have e2 : (upC l[i]).toNat = inbox[i].toNat := by rw [e]
        rw [hup] at e2
        have R : (if upC l[i] :: ((l.take 5).drop (i + 1)).map upC = inbox[i] :: inbox.drop (i + 1) then inbox ++ l.drop 5 else l) = (if ((l.take 5).drop (i + 1)).map upC = inbox.drop (i + 1) then inbox ++ l.drop 5 else l) := by
          by_cases q : ((l.take 5).drop (i + 1)).map upC = inbox.drop (i + 1)
          · rw [if_pos q, if_pos (by rw [e, q])]
          · rw [if_neg q, if_neg (fun x => q (List.cons.inj x).2)]
        rw [R]
        refine Ev.go (fun k => ?_) nx
        rw [names_Norm.j2]
        by_cases h : 97 ≤ l[i].toNat ∧ l[i].toNat ≤ 122
        · rw [if_pos h] at e2
          rw [decide_eq_true h, if_pos rfl, if_pos (by omega), if_pos (by omega), hib, if_pos (by omega), hw]
        · rw [if_neg h] at e2
          rw [decide_eq_false h, if_neg (by decide), if_pos (by omega), if_pos (by omega), hib, if_pos (by omega), hw]
      · have e2 : (upC l[i]).toNat ≠ inbox[i].toNat := fun x => e (UInt8.toNat_inj.1 x)
        rw [hup] at e2
        rw [if_neg (fun x => e (List.cons.inj x).1)]
        refine Ev.now fun k => ?_
        rw [names_Norm.j2]
        by_cases h : 97 ≤ l[i].toNat ∧ l[i].toNat ≤ 122
        · rw [if_pos h] at e2
          rw [decide_eq_true h, if_pos rfl, if_pos (by omega), if_pos (by omega), hib, if_neg (by omega)]
        · rw [if_neg h] at e2
          rw [decide_eq_false h, if_neg (by decide), if_pos (by omega), if_pos (by omega), hib, if_neg (by omega)]
    refine Ev.go (fun k => ?_) fin
    rw [names_Norm.l0, if_pos (by omega), if_pos (by omega), ba_size, if_pos (by omega), hbt]
    by_cases h : 97 ≤ l[i].toNat
    · rw [if_pos (by omega)]
      congr 1
      rw [decide_eq_decide]; omega
    · rw [if_neg (by omega)]
      congr 1
      symm
      rw [decide_eq_false_iff_not]; omega
theorem names_norm_f (l : List UInt8) (hl : l.length ≤ 1000000) : Ev (fun k => names_Norm.f k (B l)) (B (normL l)) := by
  have yes : Ev (fun k => names_Norm.j0 k (B l) true) (B l) := Ev.now fun k => by rw [names_Norm.j0, if_pos rfl]
  unfold names_Norm.f normL
  simp only [ba_size]
  by_cases c0 : (l.length : Int) < 5
  · simp only [if_pos c0]
    rw [if_pos (Or.inl (by omega))]
    exact yes
  · simp only [if_neg c0]
    have no : ¬ (5 < l.length ∧ l.getD 5 0 ≠ 47) → Ev (fun k => names_Norm.j0 k (B l) false) (B (if l.length < 5 ∨ (5 < l.length ∧ l.getD 5 0 ≠ 47) then l else if (l.take 5).map upC = inbox then inbox ++ l.drop 5 else l)) := by
      intro hn
      rw [if_neg (by rintro (h | h); omega; exact hn h)]
      apply Ev.go
      · intro k; rw [names_Norm.j0, if_neg (by decide)]
      · have := names_norm_l0 l (by omega) hl 5 0 (by omega)
        rw [List.drop_zero, List.drop_zero] at this
        exact this
    by_cases c1 : (l.length : Int) > 5
    · simp only [if_pos c1, if_pos (show (5 : Int) < l.length by omega)]
      have hb : bt (B l) 5 = ((l.getD 5 0).toNat : Int) := btn l 5
      rw [hb]
      by_cases c2 : l.getD 5 0 = 47
      · rw [c2] at no ⊢
        have e : (((47 : UInt8).toNat : Int) != 47) = false := rfl
        rw [e]
        exact no (by simp)
      · have e : (((l.getD 5 0).toNat : Int) != 47) = true := by
          rw [bne_iff_ne]
          exact fun h => c2 ((u8i _ 47).mp h)
        rw [e, if_pos (Or.inr ⟨by omega, c2⟩)]
        exact yes
    · simp only [if_neg c1]
      exact no (by omega)
theorem rnorm_f (l : List UInt8) (hl : l.length ≤ 1000000) : Ev (fun k => haversackref07_Norm.f k (B l)) (B (normL l)) := by
  obtain ⟨p0, r, hp⟩ : ∃ p0 r, partsA [] l = p0 :: r := by
    cases h : partsA [] l with
    | nil => exact absurd h (partsA_ne l [])
    | cons p0 r => exact ⟨p0, r, rfl⟩
  have hlen := partsA_len l []
  rw [hp, List.length_cons] at hlen
  have hj : joinL (p0 :: r) = l := by rw [← hp]; exact join_parts l []
  have hji : (joinL (inbox :: r)).length ≤ l.length + 5 := by
    by_cases e : r = []
    · subst e; rw [joinL_one]; show 5 ≤ _; omega
    · rw [joinL_cons _ _ e, ← hj, joinL_cons _ _ e]; simp only [List.length_append, List.length_cons, inbox, List.length_nil]; omega
  have hp0 : p0.length ≤ l.length := by
    rw [← hj]
    by_cases e : r = []
    · subst e; rw [joinL_one]; exact Nat.le_refl _
    · rw [joinL_cons _ _ e]; simp
  unfold haversackref07_Norm.f
  refine Ev.bd (rparts_f l hl) ?_
  rw [hp, norm_cut l p0 r hp]
  have hup : haversackref07_Upper.f (B p0) = some (B (upL p0)) := by
    unfold haversackref07_Upper.f
    rw [ba_size, if_pos (by omega)]
  simp only [List.map_cons, List.length_cons, List.length_map, if_pos (show (0 : Int) < ((r.length + 1 : Nat) : Int) by omega)]
  have hrd : rdOf ByteArray.empty (B p0 :: r.map B) 0 = B p0 := rfl
  rw [hrd, hup]
  simp only [Option.bind_some, ba_toList]
  by_cases e : upL p0 = inbox
  · have e2 : upL p0 = [73, 78, 66, 79, 88] := e
    simp only [if_pos e2, if_pos e]
    exact Ev.bd (rjoin_f (inbox :: r) (by simp; omega) (by omega)) (Ev.ret _)
  · have e2 : ¬ upL p0 = [73, 78, 66, 79, 88] := e
    simp only [if_neg e2, if_neg e]
    exact Ev.bd (rjoin_f (p0 :: r) (by simp; omega) (by rw [hj]; omega)) (Ev.ret _)
set_option maxHeartbeats 1000000 in
theorem judges_law (l m t : List UInt8) (h1 : l.length ≤ 600) (h2 : m.length ≤ 600) (h3 : t.length ≤ 600) : Ev (fun k => haversacklaw07_NamesJudges.j0 k (B l) (B m) (B t) false) true := by
  have hpa := partsA_len l []
  have hul := ups_len l [] []
  apply Ev.go
  · intro k
    rw [haversacklaw07_NamesJudges.j0, if_neg (by decide), moved_f l m t (by omega) (by omega) (by omega), Option.bind_some, rmoved_f l m t (by omega) (by omega) (by omega), Option.bind_some, names_parts_f l (by omega), Option.bind_some, names_right_f l (by omega), Option.bind_some]
  · refine Ev.bd (rright_f l (by omega)) ?_
    simp only [beq_self_eq_true, if_true]
    refine Ev.bd (names_norm_f l (by omega)) (Ev.bd (rnorm_f l (by omega)) ?_)
    simp only [if_true]
    refine Ev.bd (rparts_f l (by omega)) (Ev.bd (same_f _ (by rw [List.length_map]; omega)) ?_)
    simp only [if_true, names_join_f _ (show (joinL (partsA [] l)).length ≤ 1000000000 by rw [join_parts]; simp; omega) (show (partsA [] l).length ≤ 1000000000 by omega), Option.bind_some]
    refine Ev.bd (rjoin_f _ (by omega) (by rw [join_parts]; simp; omega)) ?_
    simp only [if_true]
    refine Ev.bd (names_up_f l (by omega)) (Ev.bd (rup_f l (by omega)) (Ev.bd (same_f _ (by rw [List.length_map]; omega)) ?_))
    simp only [if_true, under_f l m (by omega), runder_f, Option.bind_some, beq_self_eq_true]
    exact Ev.bd alive_ev (Ev.ret _)
theorem NamesJudges : haversacklaw07_NamesJudges.Pure := by
  intro a0 a1 a2 _ _ _
  rw [ba_list a0, ba_list a1, ba_list a2]
  generalize a0.data.toList = l
  generalize a1.data.toList = m
  generalize a2.data.toList = t
  have hal : Ev (fun k => haversacklaw07_NamesJudges.j0 k (B l) (B m) (B t) true) true := by
    apply Ev.go
    · intro k; rw [haversacklaw07_NamesJudges.j0, if_pos rfl]
    · exact Ev.bd alive_ev (Ev.ret _)
  have hev : Ev (fun k => haversacklaw07_NamesJudges.f k (B l) (B m) (B t)) true := by
    unfold haversacklaw07_NamesJudges.f
    simp only [ba_size]
    by_cases c0 : (l.length : Int) > 600
    · simp only [if_pos c0]; exact hal
    · simp only [if_neg c0]
      by_cases c1 : (m.length : Int) > 600
      · simp only [if_pos c1]; exact hal
      · simp only [if_neg c1]
        by_cases c2 : (t.length : Int) > 600
        · simp only [decide_eq_true c2]; exact hal
        · simp only [decide_eq_false c2]
          exact judges_law l m t (by omega) (by omega) (by omega)
  obtain ⟨K, hK⟩ := hev
  exact ⟨K, hK K (Nat.le_refl _)⟩
end Go.Proofs.YtnkibbfpmhgeaaaDoor.Pure
