/- YtkngjdhggcaonaaDoorMyHeadG, as far as HeaderEnvelopes needs it (prune.py). -/
import Derived.Test.YtkngjdhggcaonaaDoorHeaderEnvelopesPPx36
import Derived.Test.YtkngjdhggcaonaaDoorHeaderEnvelopesPPx34
import Derived.Test.YtkngjdhggcaonaaDoorHeaderEnvelopesPPx35
import Derived.Test.YtkngjdhggcaonaaDoorHeaderEnvelopesPPx12
import Derived.Test.YtkngjdhggcaonaaDoorHeaderEnvelopesPPx12
import Derived.Test.YtkngjdhggcaonaaDoorHeaderEnvelopesMyHeadO
namespace Go.Proofs.YtkngjdhggcaonaaDoor.Pure
open Go.RowKit Go.Proofs.YtkngjdhggcaonaaDoor.PP Go.Proofs.YtkngjdhggcaonaaDoor.My Go.Proofs.YtkngjdhggcaonaaDoorW.PrintWords Go.Proofs.YtkngjdhggcaonaaDoorW.PrintLast
set_option linter.unusedVariables false
set_option linter.unusedSimpArgs false
/-- A sum that does not wrap, hidden from omega. -/
structure Wp (a b : Int) : Prop where
  e : wrap64 a = b
def amL (n : List UInt8) (names : List (List UInt8)) : Bool := names.any fun x => lowL x == lowL n
theorem among_f (n : List UInt8) (names : List (List UInt8)) (hn : n.length ≤ 9223372036854775807) (hs : names.length ≤ 9223372036854775807) (hx : ∀ x ∈ names, x.length ≤ 9223372036854775807) : header_among.f (B n) (Bs names) = some (amL n names) := by
  unfold header_among.f
  rw [if_pos (by rw [bS]; omega), if_pos (by rw [List.length_map]; omega), if_pos]
  · unfold amL
    rw [List.any_map]
    congr 2
    funext x
    show ((lowS (B x)).toList == (lowS (B n)).toList) = _
    have e : ∀ y, (lowS (B y)).toList = lowL y := fun y => ba_toList _
    rw [e, e]
  · rw [List.all_map, List.all_eq_true]
    intro x h
    have := hx x h
    simp only [Function.comp, decide_eq_true_eq]
    rw [bS]; omega
theorem Among_ev (n : List UInt8) (names : List (List UInt8)) (hn : n.length ≤ 9223372036854775807) (hs : names.length ≤ 9223372036854775807) (hx : ∀ x ∈ names, x.length ≤ 9223372036854775807) : ∀ (ls a : List (List UInt8)), a ++ ls = names →
    Ev (fun k => haversackref10_Among.l0 k (B n) (Bs names) ((a.length : Nat) : Int)) (amL n ls)
  | [], a, ha => by
    have h1 : a = names := by simpa using ha
    subst h1
    exact Ev.now (fun k => by rw [haversackref10_Among.l0, if_neg (by simp)]; rfl)
  | l :: ls, a, ha => by
    have hLl : names.length = a.length + ls.length + 1 := by rw [← ha]; simp; omega
    have hl := hx l (by rw [← ha]; simp)
    have g1 : ((a.length : Nat) : Int) < ((Bs names).length : Int) := by rw [List.length_map]; omega
    have g0 : (0 : Int) ≤ ((a.length : Nat) : Int) := by omega
    have hrd : rdOf ByteArray.empty (Bs names) ((a.length : Nat) : Int) = B l := by
      rw [rdBs names _ (by omega)]
      congr 1
      simp [← ha]
    have lw : ∀ y : List UInt8, y.length ≤ 9223372036854775807 → haversackref08_Lower.f (B y) = some (B (lowL y)) := by
      intro y hy
      unfold haversackref08_Lower.f
      rw [if_pos (by rw [bS]; omega)]
    have w1 : Wp (((a.length : Nat) : Int) + 1) (((a ++ [l]).length : Nat) : Int) := ⟨by
      rw [w64 (x := ((a.length : Nat) : Int) + 1) (by omega), List.length_append]; rfl⟩
    have ih := Among_ev n names hn hs hx ls (a ++ [l]) (by rw [← ha]; simp)
    have step : ∀ k, haversackref10_Among.l0 (k + 1) (B n) (Bs names) ((a.length : Nat) : Int) = if lowL l = lowL n then some true else haversackref10_Among.l0 k (B n) (Bs names) (((a ++ [l]).length : Nat) : Int) := by
      intro k
      rw [haversackref10_Among.l0, if_pos g1, if_pos g0, hrd, lw l hl, lw n hn]
      simp only [Option.bind_some, btl, w1.e]
    unfold amL
    rw [List.any_cons]
    by_cases h : lowL l = lowL n
    · rw [h, beq_self_eq_true, Bool.true_or]
      exact Ev.now (fun k => by rw [step, if_pos h])
    · have hb : (lowL l == lowL n) = false := beq_eq_false_iff_ne.2 h
      rw [hb, Bool.false_or]
      exact Ev.go (fun k => by rw [step, if_neg h]) ih
theorem Among_f_ev (n : List UInt8) (names : List (List UInt8)) (hn : n.length ≤ 9223372036854775807) (hs : names.length ≤ 9223372036854775807) (hx : ∀ x ∈ names, x.length ≤ 9223372036854775807) : Ev (fun k => haversackref10_Among.f k (B n) (Bs names)) (amL n names) :=
  Among_ev n names hn hs hx names [] rfl
def unfL (s : List UInt8) : List UInt8 := trimE false (without 10 (without 13 s))
theorem without_len (c : UInt8) (l : List UInt8) : (without c l).length ≤ l.length := List.length_filter_le _ _
theorem unfold_f (s : List UInt8) (hl : s.length ≤ 1000000000) : header_Unfold.f (B s) = some (B (unfL s)) := by
  have h1 := without_len 13 s
  have h2 := without_len 10 (without 13 s)
  have r : ∀ (c : UInt8) (x : List UInt8), x.length ≤ 1000000000 → strings_ReplaceAll.f (B x) (⟨#[c]⟩ : ByteArray) (⟨#[]⟩ : ByteArray) = some (B (without c x)) := by
    intro c x hx
    unfold strings_ReplaceAll.f
    rw [if_pos (by rw [bS]; exact hx), if_pos (by rfl), if_pos (by rfl)]
    rfl
  have t : ∀ (x : List UInt8), x.length ≤ 1000000000 → strings_Trim.f (B x) (⟨#[32, 9]⟩ : ByteArray) = some (B (trimE false x)) := by
    intro x hx
    unfold strings_Trim.f
    rw [if_pos (by rw [bS]; omega), if_pos (by decide), if_pos (by decide)]
    show some (B (Lib.trimS x [32, 9])) = _
    rw [trim_lib false [32, 9]]
    intro c
    unfold bkE
    simp only [List.contains_cons, List.contains_nil, Bool.or_false, Bool.false_and]
  unfold header_Unfold.f
  rw [r 13 s hl]
  simp only [Option.bind_some]
  rw [r 10 _ (by omega)]
  simp only [Option.bind_some]
  rw [t _ (by omega)]
  rfl
theorem Unfold_ev (s : List UInt8) (hl : s.length ≤ 1000000000) : ∀ (r p : List UInt8), p ++ r = s →
    Ev (fun k => haversackref10_Unfold.l0 k (B s) (B (without 10 (without 13 p))) ((p.length : Nat) : Int)) (B (unfL s))
  | [], p, hp => by
    have h1 : p = s := by simpa using hp
    subst h1
    refine Ev.go (fun k => by rw [haversackref10_Unfold.l0, if_neg (by rw [bS]; simp)]) ?_
    have h1 := without_len 13 p
    have h2 := without_len 10 (without 13 p)
    exact Ev.bd (trim_ev false _ (by omega)) (Ev.ret _)
  | c :: r, p, hp => by
    have hsl : s.length = p.length + r.length + 1 := by rw [← hp]; simp; omega
    have hb : bt (B s) ((p.length : Nat) : Int) = (c.toNat : Int) := by
      rw [btn s _ (by omega)]
      congr 2
      simp only [← hp]
      rw [List.getElem_append_right (by simp)]
      simp
    have g1 : ((p.length : Nat) : Int) < ((B s).size : Int) := by rw [bS]; omega
    have g0 : (0 : Int) ≤ ((p.length : Nat) : Int) := by omega
    have g2 : ((p.length : Nat) : Int) ≤ (((p ++ [c]).length : Nat) : Int) := by rw [List.length_append]; simp only [List.length_cons, List.length_nil]; omega
    have g3 : (((p ++ [c]).length : Nat) : Int) ≤ ((B s).size : Int) := by rw [bS, List.length_append]; simp; omega
    have h1 := without_len 13 p
    have h2 := without_len 10 (without 13 p)
    have gs : (B (without 10 (without 13 p))).size + ((p ++ [c]).length - p.length) ≤ 9223372036854775807 := by rw [bS, List.length_append]; simp; omega
    have w1 : Wp (((p.length : Nat) : Int) + 1) (((p ++ [c]).length : Nat) : Int) := ⟨by
      rw [w64 (x := ((p.length : Nat) : Int) + 1) (by omega), List.length_append]; rfl⟩
    have ih := Unfold_ev s hl r (p ++ [c]) (by rw [← hp]; simp)
    have hx : (B s).extract p.length (p ++ [c]).length = B [c] := by
      rw [bex]
      have e1 : s = (p ++ [c]) ++ r := by rw [← hp]; simp
      rw [e1, List.take_left' rfl, List.drop_left]
    by_cases h10 : c = 10
    · have e : without 10 (without 13 (p ++ [c])) = without 10 (without 13 p) := by subst h10; simp [without]
      rw [e] at ih
      exact Ev.go (fun k => by rw [haversackref10_Unfold.l0, if_pos g1, if_pos g0, hb, if_pos (t10 h10), w1.e]) ih
    · by_cases h13 : c = 13
      · have e : without 10 (without 13 (p ++ [c])) = without 10 (without 13 p) := by subst h13; simp [without]
        rw [e] at ih
        exact Ev.go (fun k => by rw [haversackref10_Unfold.l0, if_pos g1, if_pos g0, hb, if_neg (n10 h10), if_pos (t13 h13), w1.e]) ih
      · have e : without 10 (without 13 (p ++ [c])) = without 10 (without 13 p) ++ [c] := by simp [without, h10, h13]
        rw [e] at ih
        exact Ev.go (fun k => by rw [haversackref10_Unfold.l0, if_pos g1, if_pos g0, hb, if_neg (n10 h10), if_neg (n13 h13), w1.e, if_pos g2, if_pos g3, Int.toNat_natCast, Int.toNat_natCast, if_pos gs, hx, bcat]) ih
theorem Unfold_f_ev (s : List UInt8) (hl : s.length ≤ 1000000000) : Ev (fun k => haversackref10_Unfold.f k (B s)) (B (unfL s)) :=
  Unfold_ev s hl s [] rfl
def getL (l : List P2) (names : List (List UInt8)) : List (List UInt8) := (l.filter fun p => amL p.1 names).map fun p => unfL p.2
/-- What all these laws ask of fields and names: no machine is too small for them. -/
structure Fit (l : List P2) (names : List (List UInt8)) : Prop where
  few : l.length ≤ 1000000000
  short : ∀ p ∈ l, p.1.length ≤ 1000000000 ∧ p.2.length ≤ 1000000000
  count : names.length ≤ 1000000000
  name : ∀ x ∈ names, x.length ≤ 9223372036854775807
theorem rdF (L : List P2) (a : List P2) (p : P2) (ls : List P2) (h : a ++ p :: ls = L) : rd_T37 (fB L) ((a.length : Nat) : Int) = ⟨B p.1, B p.2⟩ := by
  unfold rd_T37
  rw [Int.toNat_natCast, ← h]
  simp [List.getD_eq_getElem?_getD]
theorem getL_len (l : List P2) (names : List (List UInt8)) : (getL l names).length ≤ l.length := by
  unfold getL
  rw [List.length_map]
  exact List.length_filter_le _ _
theorem getL_snoc (a : List P2) (p : P2) (names : List (List UInt8)) : getL (a ++ [p]) names = if amL p.1 names = true then getL a names ++ [unfL p.2] else getL a names := by
  unfold getL
  rw [List.filter_append]
  by_cases h : amL p.1 names = true
  · rw [if_pos h]; simp [h]
  · rw [if_neg h]; simp [h]
theorem Get_ev (L : List P2) (names : List (List UInt8)) (hf : Fit L names) : ∀ (ls a : List P2), a ++ ls = L →
    Ev (fun k => header_Get.l0 k (Bs names) (Bs (getL a names)) (fB L) (L.length : Int) ((a.length : Nat) : Int)) (Bs (getL L names))
  | [], a, ha => by
    have h1 : a = L := by simpa using ha
    subst h1
    exact Ev.now (fun k => by rw [header_Get.l0, if_neg (by simp)])
  | p :: ls, a, ha => by
    have hLl : L.length = a.length + ls.length + 1 := by rw [← ha]; simp; omega
    have hp := hf.short p (by rw [← ha]; simp)
    have hfew := hf.few
    have hrd := rdF L a p ls ha
    have g1 : ((a.length : Nat) : Int) < (L.length : Int) := by omega
    have g2 : ((a.length : Nat) : Int) < ((fB L).length : Int) := by rw [List.length_map]; omega
    have g0 : (0 : Int) ≤ ((a.length : Nat) : Int) := by omega
    have glen : (Bs (getL a names)).length < 8796093022208 := by
      rw [List.length_map]
      have := getL_len a names
      omega
    have w1 : Wp (((a.length : Nat) : Int) + 1) (((a ++ [p]).length : Nat) : Int) := ⟨by
      rw [w64 (x := ((a.length : Nat) : Int) + 1) (by omega), List.length_append]; rfl⟩
    have hnm := hf.count
    have ham := among_f p.1 names (by omega) (by omega) hf.name
    have ih := Get_ev L names hf ls (a ++ [p]) (by rw [← ha]; simp)
    rw [getL_snoc] at ih
    have step : ∀ k, header_Get.l0 (k + 1) (Bs names) (Bs (getL a names)) (fB L) (L.length : Int) ((a.length : Nat) : Int) = if amL p.1 names = true then header_Get.l0 k (Bs names) (Bs (getL a names) ++ [B (unfL p.2)]) (fB L) (L.length : Int) (((a ++ [p]).length : Nat) : Int) else header_Get.l0 k (Bs names) (Bs (getL a names)) (fB L) (L.length : Int) (((a ++ [p]).length : Nat) : Int) := by
      intro k
      rw [header_Get.l0, if_pos g1, if_pos g0, if_pos g2, hrd]
      simp only [ham, Option.bind_some, unfold_f p.2 hp.2, if_pos glen, w1.e]
    by_cases h : amL p.1 names = true
    · rw [if_pos h] at ih
      have e : Bs (getL a names) ++ [B (unfL p.2)] = Bs (getL a names ++ [unfL p.2]) := by simp [Bs]
      exact Ev.go (fun k => by rw [step, if_pos h, e]) ih
    · rw [if_neg h] at ih
      exact Ev.go (fun k => by rw [step, if_neg h]) ih
theorem Get_f_ev (L : List P2) (names : List (List UInt8)) (hf : Fit L names) : Ev (fun k => header_Get.f k (fB L) (Bs names)) (Bs (getL L names)) := by
  refine Ev.same (fun k => ?_) (Get_ev L names hf L [] rfl)
  rw [header_Get.f, List.length_map]
  rfl
theorem RGet_ev (L : List P2) (names : List (List UInt8)) (hf : Fit L names) : ∀ (ls a : List P2), a ++ ls = L →
    Ev (fun k => haversackref10_Get.l0 k (fB L) (Bs names) (Bs (getL a names)) ((a.length : Nat) : Int)) (Bs (getL L names))
  | [], a, ha => by
    have h1 : a = L := by simpa using ha
    subst h1
    exact Ev.now (fun k => by rw [haversackref10_Get.l0, if_neg (by simp)])
  | p :: ls, a, ha => by
    have hLl : L.length = a.length + ls.length + 1 := by rw [← ha]; simp; omega
    have hp := hf.short p (by rw [← ha]; simp)
    have hfew := hf.few
    have hrd := rdF L a p ls ha
    have g2 : ((a.length : Nat) : Int) < ((fB L).length : Int) := by rw [List.length_map]; omega
    have g0 : (0 : Int) ≤ ((a.length : Nat) : Int) := by omega
    have glen : (Bs (getL a names)).length < 8796093022208 := by
      rw [List.length_map]
      have := getL_len a names
      omega
    have w1 : Wp (((a.length : Nat) : Int) + 1) (((a ++ [p]).length : Nat) : Int) := ⟨by
      rw [w64 (x := ((a.length : Nat) : Int) + 1) (by omega), List.length_append]; rfl⟩
    have hnm := hf.count
    have ham := Among_f_ev p.1 names (by omega) (by omega) hf.name
    have ih := RGet_ev L names hf ls (a ++ [p]) (by rw [← ha]; simp)
    rw [getL_snoc] at ih
    refine Ev.go (fun k => by rw [haversackref10_Get.l0, if_pos g2, if_pos g0, hrd]) ?_
    refine Ev.bd ham ?_
    by_cases h : amL p.1 names = true
    · rw [if_pos h] at ih
      have e : Bs (getL a names) ++ [B (unfL p.2)] = Bs (getL a names ++ [unfL p.2]) := by simp [Bs]
      simp only [if_pos h]
      refine Ev.bd (Unfold_f_ev p.2 hp.2) ?_
      simp only [if_pos glen, w1.e, e]
      exact ih
    · rw [if_neg h] at ih
      simp only [if_neg h, w1.e]
      exact ih
theorem RGet_f_ev (L : List P2) (names : List (List UInt8)) (hf : Fit L names) : Ev (fun k => haversackref10_Get.f k (fB L) (Bs names)) (Bs (getL L names)) :=
  RGet_ev L names hf L [] rfl
theorem texts_ev (l : List ByteArray) (hl : l.length ≤ 1000000000) : Ev (fun k => haversackref10_Texts.f k l l) true := by
  have key : ∀ (n i : Nat), l.length - i ≤ n → i ≤ l.length → Ev (fun k => haversackref10_Texts.l0 k l l (i : Int)) true := by
    intro n
    induction n with
    | zero =>
      intro i h1 h2
      have g : ¬ (i : Int) < (l.length : Int) := by omega
      exact Ev.now (fun k => by rw [haversackref10_Texts.l0, if_neg g])
    | succ n ih =>
      intro i h1 h2
      by_cases hp : i < l.length
      · have g : (i : Int) < (l.length : Int) := by omega
        have g0 : (0 : Int) ≤ (i : Int) := by omega
        have h3 := ih (i + 1) (by omega) (by omega)
        have w1 : Wp ((i : Int) + 1) ((i + 1 : Nat) : Int) := ⟨w64 (x := (i : Int) + 1) (by omega)⟩
        exact Ev.go (fun k => by rw [haversackref10_Texts.l0, if_pos g, if_pos g0, if_pos g, if_pos rfl, w1.e]) h3
      · have g : ¬ (i : Int) < (l.length : Int) := by omega
        exact Ev.now (fun k => by rw [haversackref10_Texts.l0, if_neg g])
  refine Ev.same (fun k => ?_) (key l.length 0 (by omega) (by omega))
  rw [haversackref10_Texts.f, if_pos rfl]
  rfl
end Go.Proofs.YtkngjdhggcaonaaDoor.Pure
