/-
  The document's Match: a table, row by row; it tells the same as names.Match.
-/
import Derived.Test.YtnkibbfpmhgeaaaDoorPPx9
import Derived.Test.YtnkibbfpmhgeaaaDoorMyNamesM
namespace Go.Proofs.YtnkibbfpmhgeaaaDoor.Pure
open Go.RowKit Go.Proofs.YtnkibbfpmhgeaaaDoor.PP Go.Proofs.YtnkibbfpmhgeaaaDoor.My Go.Proofs.YtnkibbfpmhgeaaaDoorW.PrintWords Go.Proofs.YtnkibbfpmhgeaaaDoorW.PrintLast
set_option linter.unusedVariables false
set_option linter.unusedSimpArgs false
theorem Ev.go {α : Type} {g f : Nat → Option α} {r : α} (h : ∀ k, g (k + 1) = f k) (k : Ev f r) : Ev g r := Ev.next h k
theorem rds (T : List Bool) (i j : Int) (v : Bool) (hi : 0 ≤ i) (hl : i < T.length) (hj : 0 ≤ j) : rdOf false (T.set i.toNat v) j = if j = i then v else rdOf false T j := by
  unfold rdOf
  simp only [List.getD_eq_getElem?_getD, List.getElem?_set]
  by_cases e : j = i
  · subst e; rw [if_pos rfl, if_pos rfl, if_pos (by omega)]; rfl
  · rw [if_neg e, if_neg (by omega)]
theorem bti (l : List UInt8) (i : Int) (h : 0 ≤ i) : bt ⟨l.toArray⟩ i = ((l.getD i.toNat 0).toNat : Int) := by
  obtain ⟨m, rfl⟩ : ∃ m : Nat, i = m := ⟨i.toNat, by omega⟩
  exact btn l m
theorem u8b (c d : UInt8) : ((c.toNat : Int) == (d.toNat : Int)) = (c == d) := by
  rw [Bool.eq_iff_iff, beq_iff_eq, beq_iff_eq]
  exact Eq.to_iff (u8i c d)
/-- What is found going down from below j. -/
def downF (n : List UInt8) (c : UInt8) (f : Nat → Bool) : Nat → Bool
  | 0 => false
  | j + 1 => over n c j && starF n c f j
theorem starF_downF (n : List UInt8) (c : UInt8) (f : Nat → Bool) (k : Nat) : starF n c f k = (f k || downF n c f k) := by
  cases k <;> simp [starF, downF]
theorem ref_l2 (P : ByteArray) (n : List UInt8) (c : UInt8) (I A K W : Int) (f : Nat → Bool) (v : Bool) (hW : W ≤ 2000) (hA : (I - 1) * W = A) (hA2 : I * W = A + W) (hA0 : 0 ≤ A) (hb : A ≤ 1000000000) (hI : 1 ≤ I) (hI2 : I ≤ 1000000)
    (hs : (c == 42 || c == 37) = true) (hK : 0 ≤ K) (hK2 : K < W) (hN : W = n.length + 1) :
    ∀ m : Nat, ∀ J : Int, J = (m : Int) - 1 → J < K → ∀ T : List Bool, A + W + K < T.length → (∀ t : Int, 0 ≤ t → t < W → rdOf false T (A + t) = f t.toNat) →
      Ev (fun q => haversackref07_Match.l1 q P ⟨n.toArray⟩ W (if downF n c f m = true then T.set (A + W + K).toNat true else T) I (c.toNat : Int) (K + 1)) v →
      Ev (fun q => haversackref07_Match.l2 q P ⟨n.toArray⟩ W T I (c.toNat : Int) K J) v := by
  intro m
  induction m with
  | zero =>
    intro J hJ hJK T hT hprev H
    refine Ev.go (fun q => ?_) H
    rw [haversackref07_Match.l2, if_neg (by omega), w64 (by omega)]
    rfl
  | succ m ih =>
    intro J hJ hJK T hT hprev H
    have hJm : J.toNat = m := by omega
    have hov : Ev (fun q => haversackref07_Match.j4 q P ⟨n.toArray⟩ W T I (c.toNat : Int) K J (!over n c m)) v := by
      by_cases ho : over n c m = true
      · have e1 := hprev J (by omega) (by omega)
        rw [hJm] at e1
        by_cases hf : f m = true
        · apply Ev.go
          · intro q; rw [haversackref07_Match.j4, ho, if_neg (by decide), w64 (x := I - 1) (by omega), hA, w64 (x := A) (by omega), w64 (x := A + J) (by omega), if_pos (by omega), if_pos (by omega), e1, hf, if_pos rfl, hA2, w64 (x := A + W) (by omega), w64 (x := A + W + K) (by omega), if_pos (by omega), if_pos (by omega), w64 (x := J - 1) (by omega)]
          · apply ih _ (by omega) (by omega) _ (by rw [List.length_set]; exact hT)
            · intro t ht htw
              rw [rds _ _ _ _ (by omega) hT (by omega), if_neg (by omega)]
              exact hprev t ht htw
            · have : (if downF n c f m = true then (T.set (A + W + K).toNat true).set (A + W + K).toNat true else T.set (A + W + K).toNat true) = (if downF n c f (m + 1) = true then T.set (A + W + K).toNat true else T) := by
                have e : downF n c f (m + 1) = true := by
                  show (over n c m && starF n c f m) = true
                  rw [starF_downF, ho, hf]; rfl
                rw [if_pos e, List.set_set]
                simp
              rw [this]; exact H
        · have hff : f m = false := by simpa using hf
          apply Ev.go
          · intro q; rw [haversackref07_Match.j4, ho, if_neg (by decide), w64 (x := I - 1) (by omega), hA, w64 (x := A) (by omega), w64 (x := A + J) (by omega), if_pos (by omega), if_pos (by omega), e1, hff, if_neg (by decide), w64 (x := J - 1) (by omega)]
          · apply ih _ (by omega) (by omega) _ hT hprev
            have e : downF n c f (m + 1) = downF n c f m := by
              show (over n c m && starF n c f m) = _
              rw [starF_downF, ho, hff]; simp
            rw [← e]; exact H
      · have hof : over n c m = false := by simpa using ho
        apply Ev.go
        · intro q; rw [haversackref07_Match.j4, hof, Bool.not_false, if_pos rfl, w64 (x := K + 1) (by omega)]
        · have e : downF n c f (m + 1) = false := by simp [downF, hof]
          rw [e] at H
          exact H
    have hbt : bt ⟨n.toArray⟩ J = ((n.getD m 0).toNat : Int) := by rw [bti _ _ (by omega), hJm]
    have h37 : ((c.toNat : Int) = 37) = (c = 37) := u8i c 37
    refine Ev.go (fun q => ?_) hov
    rw [haversackref07_Match.l2, if_pos (by omega), if_pos (by omega)]
    by_cases h : c = 37
    · rw [if_pos (h37.mpr h), if_pos (by omega), if_pos (by rw [ba_size]; omega), hbt, show ((47 : Int)) = (((47 : UInt8).toNat : Nat) : Int) from rfl, u8b]
      have : (n.getD m 0 == 47) = (!over n c m) := by subst h; simp [over, bne]
      rw [this]
    · rw [if_neg (fun x => h (h37.mp x))]
      have h42 : c = 42 := by simpa [h] using hs
      have : false = (!over n c m) := by subst h42; simp [over]
      rw [this]
theorem ref_l1 (P : ByteArray) (n : List UInt8) (c : UInt8) (I A W L : Int) (f : Nat → Bool) (v : Bool) (hW : W ≤ 2000) (hA : (I - 1) * W = A) (hA2 : I * W = A + W) (hA0 : 0 ≤ A) (hb : A ≤ 1000000000) (hI : 1 ≤ I) (hI2 : I ≤ 1000000) (hN : W = n.length + 1) (hL : A + W + W ≤ L)
    (H : ∀ T : List Bool, T.length = L → (∀ t : Int, 0 ≤ t → t < W → rdOf false T (A + W + t) = step n f c t.toNat) → (∀ t : Int, A + W + W ≤ t → rdOf false T t = false) →
      Ev (fun q => haversackref07_Match.l0 q P ⟨n.toArray⟩ W T (I + 1)) v) :
    ∀ d : Nat, ∀ K : Int, 0 ≤ K → K + d = W → ∀ T : List Bool, T.length = L → (∀ t : Int, 0 ≤ t → t < W → rdOf false T (A + t) = f t.toNat) → (∀ t : Int, 0 ≤ t → t < K → rdOf false T (A + W + t) = step n f c t.toNat) → (∀ t : Int, A + W + K ≤ t → rdOf false T t = false) →
      Ev (fun q => haversackref07_Match.l1 q P ⟨n.toArray⟩ W T I (c.toNat : Int) K) v := by
  intro d
  induction d with
  | zero =>
    intro K hK hKd T hT hprev hdone hrest
    obtain rfl : K = W := by omega
    refine Ev.go (fun q => ?_) (H T hT hdone hrest)
    rw [haversackref07_Match.l1, if_neg (by omega), w64 (by omega)]
  | succ d ih =>
    intro K hK hKd T hT hprev hdone hrest
    have nset : ∀ b, b = step n f c K.toNat → Ev (fun q => haversackref07_Match.l1 q P ⟨n.toArray⟩ W (T.set (A + W + K).toNat b) I (c.toNat : Int) (K + 1)) v := by
      intro b hb
      apply ih (K + 1) (by omega) (by omega)
      · rw [List.length_set]; exact hT
      · intro t ht ht2; rw [rds _ _ _ _ (by omega) (by omega) (by omega), if_neg (by omega)]; exact hprev t ht ht2
      · intro t ht ht2
        rw [rds _ _ _ _ (by omega) (by omega) (by omega)]
        by_cases e : t = K
        · subst e; rw [if_pos rfl]; exact hb
        · rw [if_neg (by omega)]; exact hdone t ht (by omega)
      · intro t ht; rw [rds _ _ _ _ (by omega) (by omega) (by omega), if_neg (by omega)]; exact hrest t (by omega)
    have h37 : ((c.toNat : Int) != 37) = (c != 37) := by
      rw [show ((37 : Int)) = (((37 : UInt8).toNat : Nat) : Int) from rfl, bne, bne, u8b]
    have h42 : ((c.toNat : Int) = 42) = (c = 42) := u8i c 42
    have hj : Ev (fun q => haversackref07_Match.j2 q P ⟨n.toArray⟩ W T I (c.toNat : Int) K (!(c == 42 || c == 37))) v := by
      by_cases hs : (c == 42 || c == 37) = true
      · have hst : step n f c = starF n c f := if_pos hs
        have e1 := hprev K hK (by omega)
        have hcell : rdOf false T (A + W + K) = false := hrest _ (by omega)
        apply Ev.go
        · intro q; rw [haversackref07_Match.j2, hs, if_neg (by decide)]
        apply Ev.go
        · intro q; rw [haversackref07_Match.l2, if_pos (by omega), if_neg (by omega)]
        have h2 := ref_l2 P n c I A K W f v hW hA hA2 hA0 hb hI hI2 hs hK (by omega) hN K.toNat (K - 1) (by omega) (by omega)
        by_cases hf : f K.toNat = true
        · apply Ev.go
          · intro q; rw [haversackref07_Match.j4, if_neg (by decide), w64 (x := I - 1) (by omega), hA, w64 (x := A) (by omega), w64 (x := A + K) (by omega), if_pos (by omega), if_pos (by omega), e1, hf, if_pos rfl, hA2, w64 (x := A + W) (by omega), w64 (x := A + W + K) (by omega), if_pos (by omega), if_pos (by omega), w64 (x := K - 1) (by omega)]
          · apply h2
            · rw [List.length_set]; omega
            · intro t ht ht2; rw [rds _ _ _ _ (by omega) (by omega) (by omega), if_neg (by omega)]; exact hprev t ht ht2
            · have : (if downF n c f K.toNat = true then (T.set (A + W + K).toNat true).set (A + W + K).toNat true else T.set (A + W + K).toNat true) = T.set (A + W + K).toNat true := by rw [List.set_set]; simp
              rw [this]
              exact nset true (by rw [hst, starF_downF, hf]; rfl)
        · have hff : f K.toNat = false := by simpa using hf
          apply Ev.go
          · intro q; rw [haversackref07_Match.j4, if_neg (by decide), w64 (x := I - 1) (by omega), hA, w64 (x := A) (by omega), w64 (x := A + K) (by omega), if_pos (by omega), if_pos (by omega), e1, hff, if_neg (by decide), w64 (x := K - 1) (by omega)]
          · apply h2 _ (by omega) hprev
            by_cases hd : downF n c f K.toNat = true
            · rw [if_pos hd]; exact nset true (by rw [hst, starF_downF, hd]; simp)
            · rw [if_neg hd]
              apply ih (K + 1) (by omega) (by omega) _ hT hprev
              · intro t ht ht2
                by_cases e : t = K
                · subst e; rw [hcell, hst, starF_downF, hff]; simpa using hd
                · exact hdone t ht (by omega)
              · intro t ht; exact hrest t (by omega)
      · have hst : step n f c = litF n c f := if_neg hs
        have hsf : (c == 42 || c == 37) = false := by simpa using hs
        by_cases hK0 : K = 0
        · refine Ev.go (fun q => ?_) (nset false (by subst hK0; rw [hst]; rfl))
          rw [haversackref07_Match.j2, hsf, Bool.not_false, if_pos rfl, if_neg (by omega), hA2, w64 (x := A + W) (by omega), w64 (x := A + W + K) (by omega), if_pos (by omega), if_pos (by omega), w64 (x := K + 1) (by omega)]
        · obtain ⟨m, hm⟩ : ∃ m : Nat, K.toNat = m + 1 := ⟨K.toNat - 1, by omega⟩
          have hm1 : (K - 1).toNat = m := by omega
          have e1 := hprev (K - 1) (by omega) (by omega)
          rw [hm1] at e1
          have hbt : bt ⟨n.toArray⟩ (K - 1) = ((n.getD m 0).toNat : Int) := by rw [bti _ _ (by omega), hm1]
          have hu : (((n.getD m 0).toNat : Int) = (c.toNat : Int)) = (n.getD m 0 = c) := u8i _ _
          by_cases hc : n.getD m 0 = c
          · refine Ev.go (fun q => ?_) (nset (f m) (by rw [hst, hm]; simp only [litF, hc, beq_self_eq_true, Bool.and_true]))
            rw [haversackref07_Match.j2, hsf, Bool.not_false, if_pos rfl, if_pos (by omega), w64 (x := K - 1) (by omega), if_pos (by omega), if_pos (by rw [ba_size]; omega), hbt, if_pos (hu.mpr hc), w64 (x := I - 1) (by omega), hA, w64 (x := A) (by omega), w64 (x := A + K) (by omega), w64 (x := A + K - 1) (by omega), if_pos (by omega), if_pos (by omega), hA2, w64 (x := A + W) (by omega), w64 (x := A + W + K) (by omega), if_pos (by omega), if_pos (by omega), w64 (x := K + 1) (by omega), show A + K - 1 = A + (K - 1) by omega, e1]
          · have hcb : (n.getD m 0 == c) = false := beq_eq_false_iff_ne.mpr hc
            refine Ev.go (fun q => ?_) (nset false (by rw [hst, hm]; simp only [litF, hcb, Bool.and_false]))
            rw [haversackref07_Match.j2, hsf, Bool.not_false, if_pos rfl, if_pos (by omega), w64 (x := K - 1) (by omega), if_pos (by omega), if_pos (by rw [ba_size]; omega), hbt, if_neg (fun x => hc (hu.mp x)), hA2, w64 (x := A + W) (by omega), w64 (x := A + W + K) (by omega), if_pos (by omega), if_pos (by omega), w64 (x := K + 1) (by omega)]
    refine Ev.go (fun q => ?_) hj
    rw [haversackref07_Match.l1, if_pos (by omega)]
    by_cases h : c = 42
    · rw [if_pos (h42.mpr h)]
      have : false = (!(c == 42 || c == 37)) := by subst h; rfl
      rw [this]
    · rw [if_neg (fun x => h (h42.mp x)), h37]
      have : (c != 37) = (!(c == 42 || c == 37)) := by
        have : (c == 42) = false := beq_eq_false_iff_ne.mpr h
        rw [this]; rfl
      rw [this]
theorem ref_l0 (p n : List UInt8) (hp : p.length ≤ 1000) (hn : n.length ≤ 1000) :
    ∀ d i : Nat, i + d = p.length → ∀ (A : Nat) (T : List Bool) (f : Nat → Bool), A = i * (n.length + 1) → T.length = (p.length + 1) * (n.length + 1) → (∀ t : Int, 0 ≤ t → t < (n.length : Int) + 1 → rdOf false T (A + t) = f t.toNat) → (∀ t : Int, A + ((n.length : Int) + 1) ≤ t → rdOf false T t = false) →
      Ev (fun q => haversackref07_Match.l0 q ⟨p.toArray⟩ ⟨n.toArray⟩ ((n.length : Int) + 1) T ((i : Int) + 1)) (rowF n (p.drop i) f n.length) := by
  intro d
  induction d with
  | zero =>
    intro i hi A T f hA hT hprev hrest
    have hTA : T.length = A + (n.length + 1) := by
      obtain rfl : i = p.length := by omega
      rw [hT, hA, Nat.add_mul, Nat.one_mul]
    have hAb : A ≤ 10000000 := by rw [hA]; exact Nat.le_trans (Nat.mul_le_mul (show i ≤ 1000 by omega) (show n.length + 1 ≤ 1001 by omega)) (by decide)
    clear hA hT
    refine Ev.now fun q => ?_
    have e := hprev (n.length : Int) (by omega) (by omega)
    rw [Int.toNat_natCast] at e
    rw [haversackref07_Match.l0, ba_size, if_neg (by omega), w64 (by omega), if_pos (by omega), if_pos (by omega), show (T.length : Int) - 1 = A + n.length by omega, e, List.drop_eq_nil_iff.2 (by omega)]
    rfl
  | succ d ih =>
    intro i hi A T f hA hT hprev hrest
    have hil : i < p.length := by omega
    rw [List.drop_eq_getElem_cons hil]
    have hAb : A ≤ 10000000 := by rw [hA]; exact Nat.le_trans (Nat.mul_le_mul (show i ≤ 1000 by omega) (show n.length + 1 ≤ 1001 by omega)) (by decide)
    have hA1 : ((i : Int) + 1 - 1) * ((n.length : Int) + 1) = (A : Int) := by rw [hA, Int.add_sub_cancel]; push_cast; rfl
    have hA2 : ((i : Int) + 1) * ((n.length : Int) + 1) = (A : Int) + ((n.length : Int) + 1) := by
      rw [Int.add_mul, Int.one_mul, ← hA1, Int.add_sub_cancel]
    have hL : (A : Int) + ((n.length : Int) + 1) + ((n.length : Int) + 1) ≤ T.length := by
      have : (i + 1 + 1) * (n.length + 1) ≤ (p.length + 1) * (n.length + 1) := Nat.mul_le_mul_right _ (by omega)
      rw [Nat.add_mul, Nat.add_mul, Nat.one_mul, ← hA, ← hT] at this
      clear hA1 hA2 hA hT
      omega
    have hm : p.getD i 0 = p[i] := by rw [List.getD_eq_getElem?_getD, List.getElem?_eq_getElem hil]; rfl
    refine Ev.go (fun q => ?_) (ref_l1 ⟨p.toArray⟩ n p[i] (i + 1) A (n.length + 1) T.length f _ (by omega) hA1 hA2 (by omega) (by omega) (by omega) (by omega) rfl hL ?_ (n.length + 1) 0 (by omega) (by omega) T rfl hprev (fun t ht ht2 => absurd ht (by omega)) (by simpa using hrest))
    · clear hA1 hA2 hA hT
      rw [haversackref07_Match.l0, ba_size, if_pos (by omega), w64 (by omega), if_pos (by omega), if_pos (by omega), show (i : Int) + 1 - 1 = i by omega, btn, hm]
    · intro T' hT' hp' hr'
      have := ih (i + 1) (by omega) (A + (n.length + 1)) T' (step n f p[i]) (by rw [hA, Nat.add_mul, Nat.one_mul]) (by rw [← hT]; exact Int.natCast_inj.mp hT') (by push_cast; exact hp') (by push_cast; exact hr')
      push_cast at this
      exact this
theorem ref_match (p n : List UInt8) (hp : p.length ≤ 1000) (hn : n.length ≤ 1000) :
    Ev (fun q => haversackref07_Match.f q ⟨p.toArray⟩ ⟨n.toArray⟩) (matchB p n) := by
  have hM : (p.length + 1) * (n.length + 1) ≤ 1001 * 1001 := Nat.mul_le_mul (by omega) (by omega)
  have hpos : 0 < (p.length + 1) * (n.length + 1) := Nat.mul_pos (by omega) (by omega)
  have em : ((p.length : Int) + 1) * ((n.length : Int) + 1) = (((p.length + 1) * (n.length + 1) : Nat) : Int) := by push_cast; rfl
  have hrep : ∀ t : Int, 0 ≤ t → rdOf false ((List.replicate ((p.length + 1) * (n.length + 1)) false).set 0 true) t = f0 t.toNat := by
    intro t ht
    have := rds (List.replicate ((p.length + 1) * (n.length + 1)) false) 0 t true (by omega) (by rw [List.length_replicate]; omega) ht
    rw [show (0 : Int).toNat = 0 from rfl] at this
    rw [this]
    unfold f0
    by_cases e : t = 0
    · subst e; rfl
    · rw [if_neg e, beq_eq_false_iff_ne.mpr (by omega)]
      unfold rdOf
      simp only [List.getD_eq_getElem?_getD, List.getElem?_replicate]
      split <;> rfl
  have H := ref_l0 p n hp hn p.length 0 (by omega) 0 ((List.replicate ((p.length + 1) * (n.length + 1)) false).set 0 true) f0 (by simp) (by simp) (fun t ht _ => by rw [show ((0 : Nat) : Int) + t = t by omega]; exact hrep t ht) (fun t ht => by rw [hrep t (by omega)]; exact beq_eq_false_iff_ne.mpr (by omega))
  refine Ev.same (fun q => ?_) H
  generalize (p.length + 1) * (n.length + 1) = M at *
  unfold haversackref07_Match.f
  rw [ba_size, ba_size, w64 (x := (p.length : Int) + 1) (by omega), w64 (x := (n.length : Int) + 1) (by omega), em, w64 (by omega), Int.toNat_natCast, if_pos (by omega), if_pos (by omega), Option.bind_some, List.length_replicate, if_pos (by omega)]
  rfl
end Go.Proofs.YtnkibbfpmhgeaaaDoor.Pure
