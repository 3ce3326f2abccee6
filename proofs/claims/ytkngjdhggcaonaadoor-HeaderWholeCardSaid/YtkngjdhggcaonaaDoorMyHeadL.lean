/-
  header: lines, the header's end, fields: what the program and the document's answer compute, over lists.
-/
import Derived.Test.YtkngjdhggcaonaaDoorPPx23
import Derived.Test.YtkngjdhggcaonaaDoorMyHeadA
namespace Go.Proofs.YtkngjdhggcaonaaDoor.Pure
open Go.RowKit Go.Proofs.YtkngjdhggcaonaaDoor.PP Go.Proofs.YtkngjdhggcaonaaDoor.My Go.Proofs.YtkngjdhggcaonaaDoorW.PrintWords Go.Proofs.YtkngjdhggcaonaaDoorW.PrintLast
set_option linter.unusedVariables false
set_option linter.unusedSimpArgs false
theorem bcat (a b : List UInt8) : B a ++ B b = B (a ++ b) := by
  apply ByteArray.ext
  apply Array.ext'
  simp
theorem bex (l : List UInt8) (a b : Nat) : (B l).extract a b = B ((l.take b).drop a) := ba_extract l a b
theorem btl (l : List UInt8) : (B l).toList = l := ba_toList l
theorem snoc_or (l : List UInt8) : l = [] ∨ ∃ m d, l = m ++ [d] := by
  rcases List.eq_nil_or_concat l with h | ⟨m, d, h⟩
  · exact .inl h
  · exact .inr ⟨m, d, by simpa using h⟩
theorem t9 {c : UInt8} (h : c = 9) : (c.toNat : Int) = 9 := (u9 c).mpr h
theorem n9 {c : UInt8} (h : ¬ c = 9) : ¬ (c.toNat : Int) = 9 := fun e => h ((u9 c).mp e)
theorem t10 {c : UInt8} (h : c = 10) : (c.toNat : Int) = 10 := (u10 c).mpr h
theorem n10 {c : UInt8} (h : ¬ c = 10) : ¬ (c.toNat : Int) = 10 := fun e => h ((u10 c).mp e)
theorem t13 {c : UInt8} (h : c = 13) : (c.toNat : Int) = 13 := (u13 c).mpr h
theorem n13 {c : UInt8} (h : ¬ c = 13) : ¬ (c.toNat : Int) = 13 := fun e => h ((u13 c).mp e)
theorem t32 {c : UInt8} (h : c = 32) : (c.toNat : Int) = 32 := (u32 c).mpr h
theorem n32 {c : UInt8} (h : ¬ c = 32) : ¬ (c.toNat : Int) = 32 := fun e => h ((u32 c).mp e)
def chopC (c : UInt8) (l : List UInt8) : List UInt8 := if l.getLast? = some c then l.dropLast else l
def bareL (l : List UInt8) : List UInt8 := if l.getLast? = some 10 then chopC 13 l.dropLast else l
def emptyL (l : List UInt8) : Bool := decide (l.getLast? = some 10) && decide (bareL l = [])
theorem hasSuffix1 (l : List UInt8) (c : UInt8) (hl : l.length ≤ 1000000000) : strings_HasSuffix.f (B l) (⟨#[c]⟩ : ByteArray) = some (decide (l.getLast? = some c)) := by
  unfold strings_HasSuffix.f stringslite_HasSuffix.f
  have hz : ByteArray.size ⟨#[c]⟩ = 1 := rfl
  rw [hz, bS]
  rcases snoc_or l with rfl | ⟨m, d, rfl⟩
  · rw [if_neg (by simp)]
    simp
  · have hlen : (m ++ [d]).length = m.length + 1 := by simp
    have w1 : wrap64 (((m ++ [d]).length : Int) - ((1 : Nat) : Int)) = ((m.length : Nat) : Int) := by
      rw [hlen]
      have := w64 (x := ((m.length + 1 : Nat) : Int) - ((1 : Nat) : Int)) (by omega)
      rw [this]; omega
    rw [w1, hlen, if_pos (by omega), if_pos (by omega), if_pos (by omega), Int.toNat_natCast, bex, btl, List.take_of_length_le (by simp), List.drop_left]
    have h2 : ByteArray.toList ⟨#[c]⟩ = [c] := ba_toList [c]
    rw [h2]
    simp only [Option.bind_some, Option.some.injEq, List.getLast?_append, List.getLast?_singleton, Option.some_or]
    rw [Bool.eq_iff_iff]
    simp
theorem trimSuffix1 (l : List UInt8) (c : UInt8) (hl : l.length ≤ 1000000000) : strings_TrimSuffix.f (B l) (⟨#[c]⟩ : ByteArray) = some (B (chopC c l)) := by
  have h0 : stringslite_HasSuffix.f (B l) (⟨#[c]⟩ : ByteArray) = some (decide (l.getLast? = some c)) := by
    have := hasSuffix1 l c hl
    unfold strings_HasSuffix.f at this
    cases h : stringslite_HasSuffix.f (B l) (⟨#[c]⟩ : ByteArray) with
    | none => rw [h] at this; cases this
    | some t => rw [h] at this; simpa using this
  unfold strings_TrimSuffix.f stringslite_TrimSuffix.f chopC
  rw [h0]
  have hz : ByteArray.size ⟨#[c]⟩ = 1 := rfl
  rw [hz, bS]
  simp only [Option.bind_some, decide_eq_true_eq]
  by_cases h : l.getLast? = some c
  · rw [if_pos h, if_pos h]
    rcases snoc_or l with rfl | ⟨m, d, rfl⟩
    · simp at h
    · have hlen : (m ++ [d]).length = m.length + 1 := by simp
      have w1 : wrap64 (((m ++ [d]).length : Int) - ((1 : Nat) : Int)) = ((m.length : Nat) : Int) := by
        rw [hlen]
        have := w64 (x := ((m.length + 1 : Nat) : Int) - ((1 : Nat) : Int)) (by omega)
        rw [this]; omega
      rw [w1, hlen, if_pos (by omega), if_pos (by omega), Int.toNat_natCast, bex]
      simp
  · rw [if_neg h, if_neg h]
    rfl
theorem bare_f (l : List UInt8) (hl : l.length ≤ 1000000000) : header_bare.f (B l) = some (B (bareL l)) := by
  unfold header_bare.f bareL
  rw [hasSuffix1 l 10 hl]
  simp only [Option.bind_some, decide_eq_true_eq]
  by_cases h : l.getLast? = some 10
  · rw [if_pos h, if_pos h]
    rcases snoc_or l with rfl | ⟨m, d, rfl⟩
    · simp at h
    · have hlen : (m ++ [d]).length = m.length + 1 := by simp
      have w1 : wrap64 (((B (m ++ [d])).size : Int) - 1) = ((m.length : Nat) : Int) := by
        rw [bS, hlen]
        have := w64 (x := ((m.length + 1 : Nat) : Int) - 1) (by omega)
        rw [this]; omega
      rw [w1, if_pos (by omega), if_pos (by rw [bS, hlen]; omega), Int.toNat_natCast, bex, List.drop_zero, List.take_left', trimSuffix1 _ _ (by omega)]
      · simp
      · rfl
  · rw [if_neg h, if_neg h]
theorem empty_f (l : List UInt8) (hl : l.length ≤ 1000000000) : header_empty.f (B l) = some (emptyL l) := by
  unfold header_empty.f emptyL
  rw [hasSuffix1 l 10 hl]
  simp only [Option.bind_some, decide_eq_true_eq]
  by_cases h : l.getLast? = some 10
  · rw [if_pos h, bare_f l hl]
    simp only [Option.bind_some, btl, h, decide_true, Bool.true_and, Option.some.injEq]
    rw [Bool.eq_iff_iff]
    simp
  · rw [if_neg h]
    simp [h]
theorem Bare_ev (l : List UInt8) (hl : l.length ≤ 1000000000) : Ev (fun k => haversackref10_Bare.f k (B l)) (B (bareL l)) := by
  rcases snoc_or l with rfl | ⟨m, d, rfl⟩
  · refine Ev.same (fun k => by rw [haversackref10_Bare.f, if_pos (by rfl)]) ?_
    exact Ev.now (fun k => by rw [haversackref10_Bare.j0, if_pos rfl]; rfl)
  · have hlen : (m ++ [d]).length = m.length + 1 := by simp
    have w1 : wrap64 (((B (m ++ [d])).size : Int) - 1) = ((m.length : Nat) : Int) := by
      rw [bS, hlen]
      have := w64 (x := ((m.length + 1 : Nat) : Int) - 1) (by omega)
      rw [this]; omega
    have hz : ¬ ((B (m ++ [d])).size : Int) = 0 := by rw [bS, hlen]; omega
    have hb : bt (B (m ++ [d])) ((m.length : Nat) : Int) = (d.toNat : Int) := by
      rw [btn _ _ (by omega)]
      simp
    have g1 : (0 : Int) ≤ ((m.length : Nat) : Int) := by omega
    have g2 : ((m.length : Nat) : Int) < ((B (m ++ [d])).size : Int) := by rw [bS, hlen]; omega
    refine Ev.same (fun k => by rw [haversackref10_Bare.f, if_neg hz, w1, if_pos g1, if_pos g2, hb]) ?_
    by_cases h10 : d = 10
    · subst h10
      have hbare : bareL (m ++ [10]) = chopC 13 m := by unfold bareL; simp
      rw [hbare]
      refine Ev.now (fun k => ?_)
      have hx : (B (m ++ [10])).extract 0 m.length = B m := by rw [bex]; simp
      rw [haversackref10_Bare.j0, if_neg (by decide), w1]
      rcases snoc_or m with rfl | ⟨n, e, rfl⟩
      · rw [if_neg (by decide), if_pos g1, if_pos (Int.le_of_lt g2), Int.toNat_natCast, hx]
        rfl
      · have hlen2 : (n ++ [e]).length = n.length + 1 := by simp
        have w2 : wrap64 (((B (n ++ [e] ++ [10])).size : Int) - 2) = ((n.length : Nat) : Int) := by
          rw [bS, hlen, hlen2]
          have := w64 (x := ((n.length + 1 + 1 : Nat) : Int) - 2) (by omega)
          rw [this]; omega
        have hb2 : bt (B (n ++ [e] ++ [10])) ((n.length : Nat) : Int) = (e.toNat : Int) := by
          rw [btn _ _ (by simp)]
          simp
        have g3 : ((n.length : Nat) : Int) < ((B (n ++ [e] ++ [10])).size : Int) := by rw [bS, hlen, hlen2]; omega
        have hx2 : (B (n ++ [e] ++ [10])).extract 0 n.length = B n := by rw [bex]; simp
        rw [if_pos (by rw [bS, hlen, hlen2]; omega), w2, if_pos (by omega), if_pos g3, hb2]
        by_cases h13 : e = 13
        · rw [if_pos (t13 h13), if_pos (Int.le_of_lt g3), Int.toNat_natCast, hx2]
          simp [chopC, h13]
        · rw [if_neg (n13 h13), if_pos g1, if_pos (Int.le_of_lt g2), Int.toNat_natCast, hx]
          simp [chopC, h13]
    · have hbare : bareL (m ++ [d]) = m ++ [d] := by unfold bareL; simp [h10]
      have hc : ((d.toNat : Int) != 10) = true := by
        simp only [bne_iff_ne, ne_eq]
        rw [u10]; exact h10
      rw [hbare]
      exact Ev.now (fun k => by rw [haversackref10_Bare.j0, if_pos hc])
/-! ### Lines -/
def lineL : List UInt8 → List UInt8 × List UInt8
  | [] => ([], [])
  | c :: r => if c = 10 then ([10], r) else (c :: (lineL r).1, (lineL r).2)
def linesL : List UInt8 → List (List UInt8)
  | [] => []
  | c :: r => if c = 10 then [10] :: linesL r else (match linesL r with
    | [] => [[c]]
    | l :: ls => (c :: l) :: ls)
theorem lineL_app : ∀ s, (lineL s).1 ++ (lineL s).2 = s
  | [] => rfl
  | c :: r => by
    rw [lineL]
    by_cases h : c = 10
    · rw [if_pos h, h]; rfl
    · rw [if_neg h]
      show c :: ((lineL r).1 ++ (lineL r).2) = _
      rw [lineL_app r]
theorem lineL_ne : ∀ s, s ≠ [] → (lineL s).1 ≠ []
  | [], h => absurd rfl h
  | c :: r, _ => by
    rw [lineL]
    split <;> simp
theorem lineL_len (s : List UInt8) : (lineL s).1.length + (lineL s).2.length = s.length := by
  rw [← List.length_append, lineL_app]
theorem linesL_cons : ∀ s, s ≠ [] → linesL s = (lineL s).1 :: linesL (lineL s).2
  | [], h => absurd rfl h
  | c :: r, _ => by
    rw [linesL, lineL]
    by_cases h : c = 10
    · rw [if_pos h, if_pos h]
    · rw [if_neg h, if_neg h]
      cases r with
      | nil => rfl
      | cons d r => rw [linesL_cons (d :: r) (by simp)]
theorem linesL_flat : ∀ s, (linesL s).flatten = s
  | [] => rfl
  | c :: r => by
    have ih := linesL_flat r
    rw [linesL]
    by_cases h : c = 10
    · rw [if_pos h, List.flatten_cons, ih, h]; rfl
    · rw [if_neg h]
      cases hr : linesL r with
      | nil => rw [hr] at ih; rw [← ih]; rfl
      | cons l ls => rw [hr] at ih; rw [← ih]; rfl
theorem linesL_line : ∀ (p r : List UInt8), 10 ∉ p → linesL (p ++ 10 :: r) = (p ++ [10]) :: linesL r
  | [], r, _ => by rw [List.nil_append, linesL, if_pos rfl]; rfl
  | c :: p, r, h => by
    rw [List.cons_append, linesL, if_neg (fun e => h (by simp [e])), linesL_line p r (fun e => h (by simp [e]))]
    rfl
theorem linesL_last : ∀ (p : List UInt8), 10 ∉ p → p ≠ [] → linesL p = [p]
  | [], _, h => absurd rfl h
  | [c], h, _ => by rw [linesL, if_neg (fun e => h (by simp [e]))]; rfl
  | c :: d :: p, h, _ => by
    rw [linesL, if_neg (fun e => h (by simp [e])), linesL_last (d :: p) (fun e => h (List.mem_cons_of_mem _ e)) (by simp)]
theorem index_line : ∀ (s : List UInt8), (Lib.indexByte s 10 = -1 ∧ lineL s = (s, [])) ∨ ∃ o : Nat, Lib.indexByte s 10 = (o : Int) ∧ o < s.length ∧ lineL s = (s.take (o + 1), s.drop (o + 1))
  | [] => .inl ⟨rfl, rfl⟩
  | c :: r => by
    by_cases h : c = 10
    · refine .inr ⟨0, ?_, by simp, ?_⟩
      · rw [Lib.indexByte, if_pos (by rw [h]; rfl)]; rfl
      · rw [lineL, if_pos h, h]; rfl
    · have hb : ¬ (c == 10) = true := by simpa using h
      rcases index_line r with ⟨h1, h2⟩ | ⟨o, h1, h2, h3⟩
      · refine .inl ⟨?_, ?_⟩
        · rw [Lib.indexByte, if_neg hb, h1]; rfl
        · rw [lineL, if_neg h, h2]
      · refine .inr ⟨o + 1, ?_, by simp; omega, ?_⟩
        · rw [Lib.indexByte, if_neg hb, h1, if_neg (by simp)]; omega
        · rw [lineL, if_neg h, h3]; rfl
theorem line_f (s : List UInt8) (hl : s.length ≤ 1000000000) : header_line.f (B s) = some (B (lineL s).1, B (lineL s).2) := by
  have hi : strings_IndexByte.f (B s) 10 = some (Lib.indexByte s 10) := rfl
  unfold header_line.f
  rw [hi]
  simp only [Option.bind_some]
  rcases index_line s with ⟨h1, h2⟩ | ⟨o, h1, h2, h3⟩
  · rw [h1, h2, if_neg (by decide)]
  · have w1 : wrap64 ((o : Int) + 1) = ((o + 1 : Nat) : Int) := w64 (x := (o : Int) + 1) (by omega)
    rw [h1, h3, if_pos (by omega), w1, if_pos (by omega), if_pos (by rw [bS]; omega), Int.toNat_natCast, bex, bex, bS]
    simp
/-! ### The header's end -/
def cutP : List (List UInt8) → List UInt8 × List UInt8
  | [] => ([], [])
  | l :: ls => if emptyL l = true then (l, ls.flatten) else (l ++ (cutP ls).1, (cutP ls).2)
theorem cutP_flat : ∀ ls, (cutP ls).1 ++ (cutP ls).2 = ls.flatten
  | [] => rfl
  | l :: ls => by
    rw [cutP]
    split
    · rfl
    · rw [List.append_assoc, cutP_flat ls]; rfl
def cutL (s : List UInt8) : List UInt8 × List UInt8 := cutP (linesL s)
theorem cut_ev (p : List UInt8) : ∀ (n : Nat) (t : List UInt8), t.length ≤ n → (p ++ t).length ≤ 1000000000 → ∀ q, p ++ t = q ++ t → Ev (fun k => header_Cut.l0 k (B (q ++ t)) (B t)) (B (q ++ (cutL t).1), B (cutL t).2) := by
  intro n
  induction n generalizing p with
  | zero =>
    intro t ht hl q hq
    obtain rfl : t = [] := List.length_eq_zero_iff.1 (by omega)
    exact Ev.now (fun k => by rw [header_Cut.l0, if_pos (btl [])]; rfl)
  | succ n ih =>
    intro t ht hl q hq
    by_cases h0 : t = []
    · subst h0
      exact Ev.now (fun k => by rw [header_Cut.l0, if_pos (btl [])]; rfl)
    · obtain rfl : p = q := List.append_cancel_right hq
      have hne := lineL_ne t h0
      have hle := lineL_len t
      have hpos : 1 ≤ (lineL t).1.length := by
        cases h : (lineL t).1 with
        | nil => exact absurd h hne
        | cons a b => simp
      have happ := lineL_app t
      simp only [List.length_append] at hl
      have hbt : ¬ (B t).toList = ([] : List UInt8) := by rw [btl]; exact h0
      have hc : cutL t = if emptyL (lineL t).1 = true then ((lineL t).1, (lineL t).2) else ((lineL t).1 ++ (cutL (lineL t).2).1, (cutL (lineL t).2).2) := by
        unfold cutL
        rw [linesL_cons t h0, cutP, linesL_flat]
      have hs : (p ++ (lineL t).1) ++ (lineL t).2 = p ++ t := by rw [List.append_assoc, happ]
      have w1 : wrap64 (((B (p ++ t)).size : Int) - ((B (lineL t).2).size : Int)) = (((p ++ (lineL t).1).length : Nat) : Int) := by
        rw [bS, bS, ← hs, List.length_append]
        have := w64 (x := (((p ++ (lineL t).1).length + (lineL t).2.length : Nat) : Int) - ((lineL t).2.length : Int)) (by simp; omega)
        rw [this]; omega
      by_cases he : emptyL (lineL t).1 = true
      · rw [hc, if_pos he]
        refine Ev.now (fun k => ?_)
        rw [header_Cut.l0, if_neg hbt, line_f t (by omega)]
        simp only [Option.bind_some]
        rw [empty_f _ (by omega)]
        simp only [Option.bind_some]
        rw [if_pos he, w1, if_pos (by omega), if_pos (show (((p ++ (lineL t).1).length : Nat) : Int) ≤ ((B (p ++ t)).size : Int) by rw [bS]; simp only [List.length_append]; omega), Int.toNat_natCast, bex, List.drop_zero, ← hs, List.take_left' rfl]
      · rw [hc, if_neg he]
        have step : ∀ k, header_Cut.l0 (k + 1) (B (p ++ t)) (B t) = header_Cut.l0 k (B (p ++ t)) (B (lineL t).2) := by
          intro k
          rw [header_Cut.l0, if_neg hbt, line_f t (by omega)]
          simp only [Option.bind_some]
          rw [empty_f _ (by omega)]
          simp only [Option.bind_some]
          rw [if_neg he]
        refine Ev.go step ?_
        have := ih (p ++ (lineL t).1) (lineL t).2 (by omega) (by simp only [List.length_append]; omega) (p ++ (lineL t).1) rfl
        rw [hs] at this
        simp only [List.append_assoc] at this ⊢
        exact this
theorem Cut_f_ev (s : List UInt8) (hl : s.length ≤ 1000000000) : Ev (fun k => header_Cut.f k (B s)) (B (cutL s).1, B (cutL s).2) := by
  have := cut_ev [] s.length s (Nat.le_refl _) (by simpa using hl) [] rfl
  simp only [List.nil_append] at this
  exact this
end Go.Proofs.YtkngjdhggcaonaaDoor.Pure
