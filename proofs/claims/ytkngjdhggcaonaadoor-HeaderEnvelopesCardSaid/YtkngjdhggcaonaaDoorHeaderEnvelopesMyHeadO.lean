/- YtkngjdhggcaonaaDoorMyHeadO, as far as HeaderEnvelopes needs it (prune.py). -/
import Derived.Test.YtkngjdhggcaonaaDoorHeaderEnvelopesPPx23
import Derived.Test.YtkngjdhggcaonaaDoorHeaderEnvelopesPPx25
import Derived.Test.YtkngjdhggcaonaaDoorHeaderEnvelopesMyHeadA
namespace Go.Proofs.YtkngjdhggcaonaaDoor.Pure
open Go.RowKit Go.Proofs.YtkngjdhggcaonaaDoor.PP Go.Proofs.YtkngjdhggcaonaaDoor.My Go.Proofs.YtkngjdhggcaonaaDoorW.PrintWords Go.Proofs.YtkngjdhggcaonaaDoorW.PrintLast
set_option linter.unusedVariables false
set_option linter.unusedSimpArgs false
theorem bcat (a b : List UInt8) : B a ++ B b = B (a ++ b) := by
  apply ByteArray.ext
  apply Array.ext'
  simp
theorem bex (l : List UInt8) (a b : Nat) : (B l).extract a b = B ((l.take b).drop a) := ba_extract l a b
theorem btl (l : List UInt8) : (B l).toList = l := ba_toList l
theorem snoc_or (l : List UInt8) : l = [] ∨ ∃ m d, l = m ++ [d] := by
  rcases List.eq_nil_or_concat l with h | ⟨m, d, h⟩
  · exact .inl h
  · exact .inr ⟨m, d, by simpa using h⟩
theorem t9 {c : UInt8} (h : c = 9) : (c.toNat : Int) = 9 := (u9 c).mpr h
theorem t10 {c : UInt8} (h : c = 10) : (c.toNat : Int) = 10 := (u10 c).mpr h
theorem n10 {c : UInt8} (h : ¬ c = 10) : ¬ (c.toNat : Int) = 10 := fun e => h ((u10 c).mp e)
theorem t13 {c : UInt8} (h : c = 13) : (c.toNat : Int) = 13 := (u13 c).mpr h
theorem n13 {c : UInt8} (h : ¬ c = 13) : ¬ (c.toNat : Int) = 13 := fun e => h ((u13 c).mp e)
theorem t32 {c : UInt8} (h : c = 32) : (c.toNat : Int) = 32 := (u32 c).mpr h
theorem n32 {c : UInt8} (h : ¬ c = 32) : ¬ (c.toNat : Int) = 32 := fun e => h ((u32 c).mp e)
def chopC (c : UInt8) (l : List UInt8) : List UInt8 := if l.getLast? = some c then l.dropLast else l
def bareL (l : List UInt8) : List UInt8 := if l.getLast? = some 10 then chopC 13 l.dropLast else l
theorem hasSuffix1 (l : List UInt8) (c : UInt8) (hl : l.length ≤ 1000000000) : strings_HasSuffix.f (B l) (⟨#[c]⟩ : ByteArray) = some (decide (l.getLast? = some c)) := by
  unfold strings_HasSuffix.f stringslite_HasSuffix.f
  have hz : ByteArray.size ⟨#[c]⟩ = 1 := rfl
  rw [hz, bS]
  rcases snoc_or l with rfl | ⟨m, d, rfl⟩
  · rw [if_neg (by simp)]
    simp
  · have hlen : (m ++ [d]).length = m.length + 1 := by simp
    have w1 : wrap64 (((m ++ [d]).length : Int) - ((1 : Nat) : Int)) = ((m.length : Nat) : Int) := by
      rw [hlen]
      have := w64 (x := ((m.length + 1 : Nat) : Int) - ((1 : Nat) : Int)) (by omega)
      rw [this]; omega
    rw [w1, hlen, if_pos (by omega), if_pos (by omega), if_pos (by omega), Int.toNat_natCast, bex, btl, List.take_of_length_le (by simp), List.drop_left]
    have h2 : ByteArray.toList ⟨#[c]⟩ = [c] := ba_toList [c]
    rw [h2]
    simp only [Option.bind_some, Option.some.injEq, List.getLast?_append, List.getLast?_singleton, Option.some_or]
    rw [Bool.eq_iff_iff]
    simp
theorem trimSuffix1 (l : List UInt8) (c : UInt8) (hl : l.length ≤ 1000000000) : strings_TrimSuffix.f (B l) (⟨#[c]⟩ : ByteArray) = some (B (chopC c l)) := by
  have h0 : stringslite_HasSuffix.f (B l) (⟨#[c]⟩ : ByteArray) = some (decide (l.getLast? = some c)) := by
    have := hasSuffix1 l c hl
    unfold strings_HasSuffix.f at this
    cases h : stringslite_HasSuffix.f (B l) (⟨#[c]⟩ : ByteArray) with
    | none => rw [h] at this; cases this
    | some t => rw [h] at this; simpa using this
  unfold strings_TrimSuffix.f stringslite_TrimSuffix.f chopC
  rw [h0]
  have hz : ByteArray.size ⟨#[c]⟩ = 1 := rfl
  rw [hz, bS]
  simp only [Option.bind_some, decide_eq_true_eq]
  by_cases h : l.getLast? = some c
  · rw [if_pos h, if_pos h]
    rcases snoc_or l with rfl | ⟨m, d, rfl⟩
    · simp at h
    · have hlen : (m ++ [d]).length = m.length + 1 := by simp
      have w1 : wrap64 (((m ++ [d]).length : Int) - ((1 : Nat) : Int)) = ((m.length : Nat) : Int) := by
        rw [hlen]
        have := w64 (x := ((m.length + 1 : Nat) : Int) - ((1 : Nat) : Int)) (by omega)
        rw [this]; omega
      rw [w1, hlen, if_pos (by omega), if_pos (by omega), Int.toNat_natCast, bex]
      simp
  · rw [if_neg h, if_neg h]
    rfl
theorem bare_f (l : List UInt8) (hl : l.length ≤ 1000000000) : header_bare.f (B l) = some (B (bareL l)) := by
  unfold header_bare.f bareL
  rw [hasSuffix1 l 10 hl]
  simp only [Option.bind_some, decide_eq_true_eq]
  by_cases h : l.getLast? = some 10
  · rw [if_pos h, if_pos h]
    rcases snoc_or l with rfl | ⟨m, d, rfl⟩
    · simp at h
    · have hlen : (m ++ [d]).length = m.length + 1 := by simp
      have w1 : wrap64 (((B (m ++ [d])).size : Int) - 1) = ((m.length : Nat) : Int) := by
        rw [bS, hlen]
        have := w64 (x := ((m.length + 1 : Nat) : Int) - 1) (by omega)
        rw [this]; omega
      rw [w1, if_pos (by omega), if_pos (by rw [bS, hlen]; omega), Int.toNat_natCast, bex, List.drop_zero, List.take_left', trimSuffix1 _ _ (by omega)]
      · simp
      · rfl
  · rw [if_neg h, if_neg h]
theorem Bare_ev (l : List UInt8) (hl : l.length ≤ 1000000000) : Ev (fun k => haversackref10_Bare.f k (B l)) (B (bareL l)) := by
  rcases snoc_or l with rfl | ⟨m, d, rfl⟩
  · refine Ev.same (fun k => by rw [haversackref10_Bare.f, if_pos (by rfl)]) ?_
    exact Ev.now (fun k => by rw [haversackref10_Bare.j0, if_pos rfl]; rfl)
  · have hlen : (m ++ [d]).length = m.length + 1 := by simp
    have w1 : wrap64 (((B (m ++ [d])).size : Int) - 1) = ((m.length : Nat) : Int) := by
      rw [bS, hlen]
      have := w64 (x := ((m.length + 1 : Nat) : Int) - 1) (by omega)
      rw [this]; omega
    have hz : ¬ ((B (m ++ [d])).size : Int) = 0 := by rw [bS, hlen]; omega
    have hb : bt (B (m ++ [d])) ((m.length : Nat) : Int) = (d.toNat : Int) := by
      rw [btn _ _ (by omega)]
      simp
    have g1 : (0 : Int) ≤ ((m.length : Nat) : Int) := by omega
    have g2 : ((m.length : Nat) : Int) < ((B (m ++ [d])).size : Int) := by rw [bS, hlen]; omega
    refine Ev.same (fun k => by rw [haversackref10_Bare.f, if_neg hz, w1, if_pos g1, if_pos g2, hb]) ?_
    by_cases h10 : d = 10
    · subst h10
      have hbare : bareL (m ++ [10]) = chopC 13 m := by unfold bareL; simp
      rw [hbare]
      refine Ev.now (fun k => ?_)
      have hx : (B (m ++ [10])).extract 0 m.length = B m := by rw [bex]; simp
      rw [haversackref10_Bare.j0, if_neg (by decide), w1]
      rcases snoc_or m with rfl | ⟨n, e, rfl⟩
      · rw [if_neg (by decide), if_pos g1, if_pos (Int.le_of_lt g2), Int.toNat_natCast, hx]
        rfl
      · have hlen2 : (n ++ [e]).length = n.length + 1 := by simp
        have w2 : wrap64 (((B (n ++ [e] ++ [10])).size : Int) - 2) = ((n.length : Nat) : Int) := by
          rw [bS, hlen, hlen2]
          have := w64 (x := ((n.length + 1 + 1 : Nat) : Int) - 2) (by omega)
          rw [this]; omega
        have hb2 : bt (B (n ++ [e] ++ [10])) ((n.length : Nat) : Int) = (e.toNat : Int) := by
          rw [btn _ _ (by simp)]
          simp
        have g3 : ((n.length : Nat) : Int) < ((B (n ++ [e] ++ [10])).size : Int) := by rw [bS, hlen, hlen2]; omega
        have hx2 : (B (n ++ [e] ++ [10])).extract 0 n.length = B n := by rw [bex]; simp
        rw [if_pos (by rw [bS, hlen, hlen2]; omega), w2, if_pos (by omega), if_pos g3, hb2]
        by_cases h13 : e = 13
        · rw [if_pos (t13 h13), if_pos (Int.le_of_lt g3), Int.toNat_natCast, hx2]
          simp [chopC, h13]
        · rw [if_neg (n13 h13), if_pos g1, if_pos (Int.le_of_lt g2), Int.toNat_natCast, hx]
          simp [chopC, h13]
    · have hbare : bareL (m ++ [d]) = m ++ [d] := by unfold bareL; simp [h10]
      have hc : ((d.toNat : Int) != 10) = true := by
        simp only [bne_iff_ne, ne_eq]
        rw [u10]; exact h10
      rw [hbare]
      exact Ev.now (fun k => by rw [haversackref10_Bare.j0, if_pos hc])
def lineL : List UInt8 → List UInt8 × List UInt8
  | [] => ([], [])
  | c :: r => if c = 10 then ([10], r) else (c :: (lineL r).1, (lineL r).2)
def linesL : List UInt8 → List (List UInt8)
  | [] => []
  | c :: r => if c = 10 then [10] :: linesL r else (match linesL r with
    | [] => [[c]]
    | l :: ls => (c :: l) :: ls)
theorem lineL_app : ∀ s, (lineL s).1 ++ (lineL s).2 = s
  | [] => rfl
  | c :: r => by
    rw [lineL]
    by_cases h : c = 10
    · rw [if_pos h, h]; rfl
    · rw [if_neg h]
      show c :: ((lineL r).1 ++ (lineL r).2) = _
      rw [lineL_app r]
theorem lineL_ne : ∀ s, s ≠ [] → (lineL s).1 ≠ []
  | [], h => absurd rfl h
  | c :: r, _ => by
    rw [lineL]
    split <;> simp
theorem lineL_len (s : List UInt8) : (lineL s).1.length + (lineL s).2.length = s.length := by
  rw [← List.length_append, lineL_app]
theorem linesL_cons : ∀ s, s ≠ [] → linesL s = (lineL s).1 :: linesL (lineL s).2
  | [], h => absurd rfl h
  | c :: r, _ => by
    rw [linesL, lineL]
    by_cases h : c = 10
    · rw [if_pos h, if_pos h]
    · rw [if_neg h, if_neg h]
      cases r with
      | nil => rfl
      | cons d r => rw [linesL_cons (d :: r) (by simp)]
theorem linesL_flat : ∀ s, (linesL s).flatten = s
  | [] => rfl
  | c :: r => by
    have ih := linesL_flat r
    rw [linesL]
    by_cases h : c = 10
    · rw [if_pos h, List.flatten_cons, ih, h]; rfl
    · rw [if_neg h]
      cases hr : linesL r with
      | nil => rw [hr] at ih; rw [← ih]; rfl
      | cons l ls => rw [hr] at ih; rw [← ih]; rfl
theorem linesL_line : ∀ (p r : List UInt8), 10 ∉ p → linesL (p ++ 10 :: r) = (p ++ [10]) :: linesL r
  | [], r, _ => by rw [List.nil_append, linesL, if_pos rfl]; rfl
  | c :: p, r, h => by
    rw [List.cons_append, linesL, if_neg (fun e => h (by simp [e])), linesL_line p r (fun e => h (by simp [e]))]
    rfl
theorem linesL_last : ∀ (p : List UInt8), 10 ∉ p → p ≠ [] → linesL p = [p]
  | [], _, h => absurd rfl h
  | [c], h, _ => by rw [linesL, if_neg (fun e => h (by simp [e]))]; rfl
  | c :: d :: p, h, _ => by
    rw [linesL, if_neg (fun e => h (by simp [e])), linesL_last (d :: p) (fun e => h (List.mem_cons_of_mem _ e)) (by simp)]
theorem index_line : ∀ (s : List UInt8), (Lib.indexByte s 10 = -1 ∧ lineL s = (s, [])) ∨ ∃ o : Nat, Lib.indexByte s 10 = (o : Int) ∧ o < s.length ∧ lineL s = (s.take (o + 1), s.drop (o + 1))
  | [] => .inl ⟨rfl, rfl⟩
  | c :: r => by
    by_cases h : c = 10
    · refine .inr ⟨0, ?_, by simp, ?_⟩
      · rw [Lib.indexByte, if_pos (by rw [h]; rfl)]; rfl
      · rw [lineL, if_pos h, h]; rfl
    · have hb : ¬ (c == 10) = true := by simpa using h
      rcases index_line r with ⟨h1, h2⟩ | ⟨o, h1, h2, h3⟩
      · refine .inl ⟨?_, ?_⟩
        · rw [Lib.indexByte, if_neg hb, h1]; rfl
        · rw [lineL, if_neg h, h2]
      · refine .inr ⟨o + 1, ?_, by simp; omega, ?_⟩
        · rw [Lib.indexByte, if_neg hb, h1, if_neg (by simp)]; omega
        · rw [lineL, if_neg h, h3]; rfl
theorem line_f (s : List UInt8) (hl : s.length ≤ 1000000000) : header_line.f (B s) = some (B (lineL s).1, B (lineL s).2) := by
  have hi : strings_IndexByte.f (B s) 10 = some (Lib.indexByte s 10) := rfl
  unfold header_line.f
  rw [hi]
  simp only [Option.bind_some]
  rcases index_line s with ⟨h1, h2⟩ | ⟨o, h1, h2, h3⟩
  · rw [h1, h2, if_neg (by decide)]
  · have w1 : wrap64 ((o : Int) + 1) = ((o + 1 : Nat) : Int) := w64 (x := (o : Int) + 1) (by omega)
    rw [h1, h3, if_pos (by omega), w1, if_pos (by omega), if_pos (by rw [bS]; omega), Int.toNat_natCast, bex, bex, bS]
    simp
abbrev Bs (l : List (List UInt8)) : List ByteArray := l.map (fun x => B x)
theorem rdBs (l : List (List UInt8)) (i : Nat) (h : i < l.length) : rdOf ByteArray.empty (Bs l) (i : Int) = B l[i] := by
  unfold rdOf
  simp [Bs, List.getD_eq_getElem?_getD, h]
theorem linesL_lenle (s : List UInt8) : (linesL s).length ≤ s.length := by
  induction s with
  | nil => simp [linesL]
  | cons c r ih =>
    rw [linesL]
    split
    · simp only [List.length_cons]; omega
    · split
      · simp
      · rename_i h
        rw [h] at ih
        simp only [List.length_cons] at ih ⊢
        omega
theorem linesL_ne : ∀ s, ∀ l ∈ linesL s, l ≠ []
  | [], _, h => by simp [linesL] at h
  | c :: r, l, h => by
    rw [linesL] at h
    split at h
    · rcases List.mem_cons.1 h with rfl | h
      · simp
      · exact linesL_ne r l h
    · cases hr : linesL r with
      | nil =>
        rw [hr] at h
        simp only [List.mem_singleton] at h
        rw [h]; simp
      | cons a b =>
        rw [hr] at h
        rcases List.mem_cons.1 h with rfl | h
        · simp
        · exact linesL_ne r l (by rw [hr]; exact List.mem_cons_of_mem _ h)
theorem Lines_ev (s : List UInt8) (hl : s.length ≤ 1000000000) : ∀ (r a p : List UInt8) (out : List (List UInt8)), a ++ p ++ r = s → (r = [] → p = []) → 10 ∉ p → out.length ≤ a.length →
    Ev (fun k => haversackref10_Lines.l0 k (B s) (Bs out) ((a.length : Nat) : Int) ((a.length + p.length : Nat) : Int)) (Bs (out ++ linesL (p ++ r)))
  | [], a, p, out, hs, hp, h10, ho => by
    obtain rfl := hp rfl
    have hlen : s.length = a.length := by rw [← hs]; simp
    refine Ev.now (fun k => ?_)
    rw [haversackref10_Lines.l0, if_neg (by rw [bS, hlen]; simp)]
    simp [linesL]
  | c :: r, a, p, out, hs, hp, h10, ho => by
    have hlen : s.length = a.length + p.length + r.length + 1 := by rw [← hs]; simp; omega
    have hb : bt (B s) ((a.length + p.length : Nat) : Int) = (c.toNat : Int) := by
      rw [btn s _ (by omega)]
      congr 2
      simp only [← hs]
      rw [List.getElem_append_right (by simp)]
      simp
    have g1 : ((a.length + p.length : Nat) : Int) < ((B s).size : Int) := by rw [bS]; omega
    have g0 : (0 : Int) ≤ ((a.length + p.length : Nat) : Int) := by omega
    have ga : (0 : Int) ≤ ((a.length : Nat) : Int) := by omega
    have w1 : wrap64 (((a.length + p.length : Nat) : Int) + 1) = ((a.length + p.length + 1 : Nat) : Int) := w64 (x := ((a.length + p.length : Nat) : Int) + 1) (by omega)
    have w2 : wrap64 (((B s).size : Int) - 1) = ((a.length + p.length + r.length : Nat) : Int) := by
      rw [bS, hlen]
      have := w64 (x := ((a.length + p.length + r.length + 1 : Nat) : Int) - 1) (by omega)
      rw [this]; omega
    have g2 : ((a.length : Nat) : Int) ≤ ((a.length + p.length + 1 : Nat) : Int) := by omega
    have g3 : ((a.length + p.length + 1 : Nat) : Int) ≤ ((B s).size : Int) := by rw [bS]; omega
    have g4 : (Bs out).length < 8796093022208 := by rw [List.length_map]; omega
    have hx : (B s).extract a.length (a.length + p.length + 1) = B (p ++ [c]) := by
      rw [bex, ← hs]
      have e1 : a ++ p ++ c :: r = (a ++ (p ++ [c])) ++ r := by simp
      rw [e1, List.take_left' (by simp; omega), List.drop_left]
    have push : Bs out ++ [B (p ++ [c])] = Bs (out ++ [p ++ [c]]) := by simp [Bs]
    by_cases hc : c = 10
    · subst hc
      refine Ev.go (fun k => by rw [haversackref10_Lines.l0, if_pos g1, if_pos g0, hb, if_pos (t10 rfl), if_pos ga, w1, if_pos g2, if_pos g3, if_pos g4, Int.toNat_natCast, Int.toNat_natCast, hx, push]) ?_
      have := Lines_ev s hl r (a ++ (p ++ [10])) [] (out ++ [p ++ [10]]) (by rw [← hs]; simp) (fun _ => rfl) (by simp) (by simp; omega)
      rw [linesL_line p r h10]
      simp only [List.length_append, List.length_cons, List.length_nil, List.append_assoc, List.nil_append, List.cons_append, Nat.add_zero, ← Nat.add_assoc, Nat.zero_add] at this ⊢
      exact this
    · have hp10 : 10 ∉ p ++ [c] := by simp [h10, Ne.symm hc]
      cases r with
      | nil =>
        refine Ev.go (fun k => by rw [haversackref10_Lines.l0, if_pos g1, if_pos g0, hb, if_neg (n10 hc), w2, if_pos (by simp), if_pos ga, w1, if_pos g2, if_pos g3, if_pos g4, Int.toNat_natCast, Int.toNat_natCast, hx, push]) ?_
        have := Lines_ev s hl [] (a ++ (p ++ [c])) [] (out ++ [p ++ [c]]) (by rw [← hs]; simp) (fun _ => rfl) (by simp) (by simp; omega)
        rw [linesL_last (p ++ [c]) hp10 (by simp)]
        simp only [List.length_append, List.length_cons, List.length_nil, List.append_assoc, List.nil_append, List.cons_append, Nat.add_zero, ← Nat.add_assoc, Nat.zero_add, linesL, List.append_nil] at this ⊢
        exact this
      | cons d r =>
        refine Ev.go (fun k => by rw [haversackref10_Lines.l0, if_pos g1, if_pos g0, hb, if_neg (n10 hc), w2, if_neg (by simp; omega), w1]) ?_
        have := Lines_ev s hl (d :: r) a (p ++ [c]) out (by rw [← hs]; simp) (by simp) hp10 ho
        simp only [List.length_append, List.length_cons, List.length_nil, List.append_assoc, List.nil_append, List.cons_append, Nat.add_zero, ← Nat.add_assoc, Nat.zero_add] at this ⊢
        exact this
theorem Lines_f_ev (s : List UInt8) (hl : s.length ≤ 1000000000) : Ev (fun k => haversackref10_Lines.f k (B s)) (Bs (linesL s)) :=
  Lines_ev s hl s [] [] [] (by simp) (fun _ => rfl) (by simp) (by simp)
def nameL : List UInt8 → Option (List UInt8)
  | [] => none
  | c :: r => if c = 58 then some [] else if c < 33 ∨ c > 126 then none else (nameL r).map (c :: ·)
def nmL (l : List UInt8) : List UInt8 := (nameL l).getD []
theorem nameL_some : ∀ (l n : List UInt8), nameL l = some n → ∃ r, l = n ++ 58 :: r ∧ ∀ c ∈ n, ¬ c = 58 ∧ ¬ c < 33 ∧ ¬ c > 126
  | [], n, h => by simp [nameL] at h
  | c :: l, n, h => by
    rw [nameL] at h
    by_cases h1 : c = 58
    · rw [if_pos h1] at h
      injection h with h
      subst h h1
      exact ⟨l, rfl, by simp⟩
    · rw [if_neg h1] at h
      by_cases h2 : c < 33 ∨ c > 126
      · rw [if_pos h2] at h; cases h
      · rw [if_neg h2] at h
        cases h3 : nameL l with
        | none => rw [h3] at h; cases h
        | some m =>
          rw [h3] at h
          injection h with h
          subst h
          obtain ⟨r, rfl, h4⟩ := nameL_some l m h3
          refine ⟨r, rfl, ?_⟩
          intro x hx
          rcases List.mem_cons.1 hx with rfl | hx
          · exact ⟨h1, fun e => h2 (.inl e), fun e => h2 (.inr e)⟩
          · exact h4 x hx
theorem u33 (c : UInt8) : ((c.toNat : Int) < 33) = (c < 33) := by
  rw [eq_iff_iff, UInt8.lt_iff_toNat_lt]
  show _ ↔ c.toNat < 33
  omega
theorem u126 (c : UInt8) : ((c.toNat : Int) > 126) = (c > 126) := by
  rw [eq_iff_iff]
  show _ ↔ (126 : UInt8) < c
  rw [UInt8.lt_iff_toNat_lt]
  show _ ↔ 126 < c.toNat
  omega
theorem u58 (c : UInt8) : ((c.toNat : Int) = 58) = (c = 58) := by
  rw [show (58 : Int) = ((58 : UInt8).toNat : Int) from rfl, u8i]
theorem t58 {c : UInt8} (h : c = 58) : (c.toNat : Int) = 58 := (u58 c).mpr h
theorem n58 {c : UInt8} (h : ¬ c = 58) : ¬ (c.toNat : Int) = 58 := fun e => h ((u58 c).mp e)
theorem t33 {c : UInt8} (h : c < 33) : (c.toNat : Int) < 33 := (u33 c).mpr h
theorem n33 {c : UInt8} (h : ¬ c < 33) : ¬ (c.toNat : Int) < 33 := fun e => h ((u33 c).mp e)
theorem t126 {c : UInt8} (h : c > 126) : (c.toNat : Int) > 126 := (u126 c).mpr h
theorem n126 {c : UInt8} (h : ¬ c > 126) : ¬ (c.toNat : Int) > 126 := fun e => h ((u126 c).mp e)
theorem RName_ev (s : List UInt8) (hl : s.length ≤ 1000000000) : ∀ (r p : List UInt8), p ++ r = s →
    Ev (fun k => haversackref10_Name.l0 k (B s) ((p.length : Nat) : Int)) (B (match nameL r with | none => [] | some n => p ++ n))
  | [], p, hp => by
    have h1 : p = s := by simpa using hp
    subst h1
    exact Ev.now (fun k => by rw [haversackref10_Name.l0, if_neg (by rw [bS]; simp)]; rfl)
  | c :: r, p, hp => by
    have hsl : s.length = p.length + r.length + 1 := by rw [← hp]; simp; omega
    have hb : bt (B s) ((p.length : Nat) : Int) = (c.toNat : Int) := by
      rw [btn s _ (by omega)]
      congr 2
      simp only [← hp]
      rw [List.getElem_append_right (by simp)]
      simp
    have g1 : ((p.length : Nat) : Int) < ((B s).size : Int) := by rw [bS]; omega
    have g0 : (0 : Int) ≤ ((p.length : Nat) : Int) := by omega
    have w1 : wrap64 (((p.length : Nat) : Int) + 1) = (((p ++ [c]).length : Nat) : Int) := by
      rw [List.length_append]
      exact w64 (x := ((p.length : Nat) : Int) + 1) (by omega)
    have ih := RName_ev s hl r (p ++ [c]) (by rw [← hp]; simp)
    by_cases h1 : c = 58
    · refine Ev.now (fun k => ?_)
      rw [haversackref10_Name.l0, if_pos g1, if_pos g0, hb, if_pos (t58 h1), if_pos (Int.le_of_lt g1), Int.toNat_natCast, bex, nameL, if_pos h1, ← hp]
      simp
    · by_cases h2 : c < 33
      · refine Ev.now (fun k => ?_)
        rw [haversackref10_Name.l0, if_pos g1, if_pos g0, hb, if_neg (n58 h1), if_pos (t33 h2), nameL, if_neg h1, if_pos (.inl h2)]
      · by_cases h3 : c > 126
        · refine Ev.now (fun k => ?_)
          rw [haversackref10_Name.l0, if_pos g1, if_pos g0, hb, if_neg (n58 h1), if_neg (n33 h2), if_pos (t126 h3), nameL, if_neg h1, if_pos (.inr h3)]
        · refine Ev.go (fun k => by rw [haversackref10_Name.l0, if_pos g1, if_pos g0, hb, if_neg (n58 h1), if_neg (n33 h2), if_neg (n126 h3), w1]) ?_
          rw [nameL, if_neg h1, if_neg (by simp only [not_or]; exact ⟨h2, h3⟩)]
          cases hr : nameL r with
          | none => rw [hr] at ih; exact ih
          | some n => rw [hr] at ih; simpa using ih
theorem RName_f_ev (s : List UInt8) (hl : s.length ≤ 1000000000) : Ev (fun k => haversackref10_Name.f k (B s)) (B (nmL s)) := by
  have := RName_ev s hl s [] rfl
  unfold nmL
  cases h : nameL s with
  | none => rw [h] at this; exact this
  | some n =>
    rw [h] at this
    simp only [List.nil_append] at this
    exact this
/-- The bytes ahead of the first colon, if there is one. -/
def colL : List UInt8 → Option (List UInt8)
  | [] => none
  | c :: r => if c = 58 then some [] else (colL r).map (c :: ·)
theorem index_col : ∀ (s : List UInt8), (Lib.indexByte s 58 = -1 ∧ colL s = none) ∨ ∃ o : Nat, Lib.indexByte s 58 = (o : Int) ∧ o < s.length ∧ colL s = some (s.take o)
  | [] => .inl ⟨rfl, rfl⟩
  | c :: r => by
    by_cases h : c = 58
    · refine .inr ⟨0, ?_, by simp, ?_⟩
      · rw [Lib.indexByte, if_pos (by rw [h]; rfl)]; rfl
      · rw [colL, if_pos h]; rfl
    · have hb : ¬ (c == 58) = true := by simpa using h
      rcases index_col r with ⟨h1, h2⟩ | ⟨o, h1, h2, h3⟩
      · refine .inl ⟨?_, ?_⟩
        · rw [Lib.indexByte, if_neg hb, h1]; rfl
        · rw [colL, if_neg h, h2]; rfl
      · refine .inr ⟨o + 1, ?_, by simp; omega, ?_⟩
        · rw [Lib.indexByte, if_neg hb, h1, if_neg (by simp)]; omega
        · rw [colL, if_neg h, h3]; rfl
def goodC (c : UInt8) : Bool := !(decide (c < 33) || decide (c > 126))
theorem nameL_col : ∀ s, nameL s = (colL s).bind fun n => if n.all goodC = true then some n else none
  | [] => rfl
  | c :: r => by
    rw [nameL, colL, nameL_col r]
    by_cases h : c = 58
    · rw [if_pos h, if_pos h]; rfl
    · rw [if_neg h, if_neg h]
      by_cases h2 : c < 33 ∨ c > 126
      · rw [if_pos h2]
        cases hr : colL r with
        | none => rfl
        | some n =>
          have : goodC c = false := by unfold goodC; rcases h2 with h2 | h2 <;> simp [h2]
          simp [this]
      · rw [if_neg h2]
        cases hr : colL r with
        | none => rfl
        | some n =>
          have : goodC c = true := by unfold goodC; simpa using h2
          simp only [Option.bind_some, Option.map_some, List.all_cons, this, Bool.true_and]
          split <;> rfl
theorem scut_col (s : List UInt8) (hl : s.length ≤ 1000000000) : strings_Cut.f (B s) (⟨#[58]⟩ : ByteArray) = some (match colL s with | some n => (B n, B (s.drop (n.length + 1)), true) | none => (B s, B [], false)) := by
  unfold strings_Cut.f
  have e1 : ByteArray.size ⟨#[58]⟩ = 1 := rfl
  have e2 : (⟨#[58]⟩ : ByteArray).data.toList.getD 0 0 = 58 := rfl
  have e3 : (B s).data.toList = s := rfl
  rw [if_pos e1, e2, e3, if_pos (by rw [bS]; omega)]
  rcases index_col s with ⟨h1, h2⟩ | ⟨o, h1, h2, h3⟩
  · rw [h1, h2, if_neg (by decide)]
  · rw [h1, h3, if_pos (by omega), Int.toNat_natCast, bex, bex, bS]
    have : (s.take o).length = o := by simp; omega
    simp [this]
theorem name_l0 (s : List UInt8) (hl : s.length ≤ 1000000000) : ∀ (r p : List UInt8), p ++ r = s →
    Ev (fun k => header_name.l0 k (B s) (s.length : Int) ((p.length : Nat) : Int)) (if r.all goodC = true then (B s, true) else (B [], false))
  | [], p, hp => by
    have h1 : p = s := by simpa using hp
    subst h1
    exact Ev.now (fun k => by rw [header_name.l0, if_neg (by simp)]; rfl)
  | c :: r, p, hp => by
    have hsl : s.length = p.length + r.length + 1 := by rw [← hp]; simp; omega
    have hb : bt (B s) ((p.length : Nat) : Int) = (c.toNat : Int) := by
      rw [btn s _ (by omega)]
      congr 2
      simp only [← hp]
      rw [List.getElem_append_right (by simp)]
      simp
    have g1 : ((p.length : Nat) : Int) < (s.length : Int) := by omega
    have g2 : ((p.length : Nat) : Int) < ((B s).size : Int) := g1
    have g0 : (0 : Int) ≤ ((p.length : Nat) : Int) := by omega
    have w1 : wrap64 (((p.length : Nat) : Int) + 1) = (((p ++ [c]).length : Nat) : Int) := by
      rw [List.length_append]
      exact w64 (x := ((p.length : Nat) : Int) + 1) (by omega)
    have ih := name_l0 s hl r (p ++ [c]) (by rw [← hp]; simp)
    by_cases h2 : c < 33
    · have hg : goodC c = false := by unfold goodC; simp [h2]
      refine Ev.now (fun k => ?_)
      rw [header_name.l0, if_pos g1, if_pos g0, if_pos g2, hb, if_pos (t33 h2), List.all_cons, hg]
      rfl
    · by_cases h3 : c > 126
      · have hg : goodC c = false := by unfold goodC; simp [h3]
        refine Ev.now (fun k => ?_)
        rw [header_name.l0, if_pos g1, if_pos g0, if_pos g2, hb, if_neg (n33 h2), if_pos (t126 h3), List.all_cons, hg]
        rfl
      · have hg : goodC c = true := by unfold goodC; simp only [decide_eq_false h2, decide_eq_false h3]; rfl
        refine Ev.go (fun k => by rw [header_name.l0, if_pos g1, if_pos g0, if_pos g2, hb, if_neg (n33 h2), if_neg (n126 h3), w1]) ?_
        rw [List.all_cons, hg, Bool.true_and]
        exact ih
theorem name_ev (s : List UInt8) (hl : s.length ≤ 1000000000) : Ev (fun k => header_name.f k (B s)) (B (nmL s), !(nmL s).isEmpty) := by
  refine Ev.same (fun k => by rw [header_name.f, scut_col s hl]) ?_
  unfold nmL
  rw [nameL_col]
  have hj : ∀ x, Ev (fun k => header_name.j0 k x true) (B [], false) := fun x => Ev.now (fun k => by rw [header_name.j0, if_pos rfl])
  cases h : colL s with
  | none =>
    simp only [Option.bind_some, Option.bind_none, if_neg (show ¬ false = true by decide)]
    exact hj _
  | some n =>
    simp only [Option.bind_some, if_true, btl]
    by_cases h0 : n = []
    · subst h0
      have e1 : (([] : List UInt8) == []) = true := rfl
      have e2 : ((if ([] : List UInt8).all goodC = true then some ([] : List UInt8) else none).getD []) = [] := rfl
      rw [e2, e1]
      exact hj _
    · have e1 : (n == []) = false := by simpa using h0
      have hn : n.length ≤ 1000000000 := by
        rcases index_col s with ⟨_, h2⟩ | ⟨o, _, h2, h3⟩
        · rw [h2] at h; cases h
        · rw [h3] at h
          injection h with h
          rw [← h]; simp; omega
      rw [e1]
      refine Ev.go (fun k => by rw [header_name.j0, if_neg (by decide), bS]) ?_
      have := name_l0 n hn n [] rfl
      by_cases hg : n.all goodC = true
      · rw [if_pos hg] at this ⊢
        have e2 : (!n.isEmpty) = true := by simp [h0]
        simp only [Option.getD_some, e2]
        exact this
      · rw [if_neg hg] at this ⊢
        exact this
abbrev P2 := List UInt8 × List UInt8
def addLast (out : List P2) (l : List UInt8) : List P2 := match out.getLast? with
  | none => []
  | some p => out.dropLast ++ [(p.1, p.2 ++ l)]
def contL (l : List UInt8) : Bool := decide (l.head? = some 32) || decide (l.head? = some 9)
def blkL : List (List UInt8) → Bool → List P2 → List P2
  | [], _, out => out
  | l :: ls, op, out => if contL l = true then (if op = true then blkL ls op (addLast out l) else blkL ls op out)
    else if nmL l = [] then blkL ls false out else blkL ls true (out ++ [(nmL l, l)])
abbrev hB (l : List P2) : List S55 := l.map fun p => ⟨B p.1, B p.2⟩
abbrev rB (l : List P2) : List S59 := l.map fun p => ⟨B p.1, B p.2⟩
def tot (out : List P2) : Nat := (out.map (fun p => p.2.length)).sum
theorem addLast_snoc (o : List P2) (n m l : List UInt8) : addLast (o ++ [(n, m)]) l = o ++ [(n, m ++ l)] := by
  unfold addLast
  simp
theorem tot_snoc (o : List P2) (p : P2) : tot (o ++ [p]) = tot o + p.2.length := by
  unfold tot
  simp
theorem snoc2 (l : List P2) : l = [] ∨ ∃ m n k, l = m ++ [(n, k)] := by
  rcases List.eq_nil_or_concat l with h | ⟨m, d, h⟩
  · exact .inl h
  · exact .inr ⟨m, d.1, d.2, by simpa using h⟩
theorem cont_head (c : UInt8) (r : List UInt8) : contL (c :: r) = true ↔ (c = 32 ∨ c = 9) := by
  unfold contL
  simp
theorem blocks_ev : ∀ (n : Nat) (s : List UInt8) (out : List P2) (op : Bool), s.length ≤ n → s.length + tot out ≤ 1000000000 → out.length + s.length ≤ 1000000000 → (op = true → out ≠ []) →
    Ev (fun k => header_blocks.l0 k (B s) (hB out) op) (hB (blkL (linesL s) op out)) := by
  intro n
  induction n with
  | zero =>
    intro s out op hs _ _ _
    obtain rfl : s = [] := List.length_eq_zero_iff.1 (by omega)
    exact Ev.now (fun k => by rw [header_blocks.l0, if_pos (btl [])]; rfl)
  | succ n ih =>
    intro s out op hs ht ho hop
    by_cases h0 : s = []
    · subst h0
      exact Ev.now (fun k => by rw [header_blocks.l0, if_pos (btl [])]; rfl)
    · rw [linesL_cons s h0]
      have hbt : ¬ (B s).toList = ([] : List UInt8) := by rw [btl]; exact h0
      have hle := lineL_len s
      obtain ⟨l, hl⟩ : ∃ l, l = (lineL s).1 := ⟨_, rfl⟩
      obtain ⟨t, hte⟩ : ∃ t, t = (lineL s).2 := ⟨_, rfl⟩
      have hl0 : l ≠ [] := by rw [hl]; exact lineL_ne s h0
      rw [← hl, ← hte] at hle ⊢
      have hline : header_line.f (B s) = some (B l, B t) := by rw [hl, hte]; exact line_f s (by omega)
      cases l with
      | nil => exact absurd rfl hl0
      | cons c r =>
        simp only [List.length_cons] at hle
        have gz : (0 : Int) < ((B (c :: r)).size : Int) := by rw [bS]; simp only [List.length_cons]; omega
        have hb : bt (B (c :: r)) 0 = (c.toNat : Int) := btn (c :: r) 0 (by simp)
        have hj : ∀ b, Ev (fun k => header_blocks.j1 k (B t) (hB out) op (B (c :: r)) b) (hB (blkL ((c :: r) :: linesL t) op out)) → ((c = 32 ∨ c = 9) ↔ b = true) → True := fun _ _ _ => trivial
        have step : ∀ k, header_blocks.l0 (k + 1) (B s) (hB out) op = header_blocks.j1 k (B t) (hB out) op (B (c :: r)) (contL (c :: r)) := by
          intro k
          rw [header_blocks.l0, if_neg hbt, hline]
          simp only [Option.bind_some]
          rw [if_pos gz, hb]
          by_cases h32 : c = 32
          · rw [if_pos (t32 h32), (cont_head c r).2 (.inl h32)]
          · rw [if_neg (n32 h32)]
            congr 1
            rw [Bool.eq_iff_iff, cont_head]
            simp only [beq_iff_eq, u9]
            exact ⟨fun h => .inr h, fun h => h.resolve_left h32⟩
        refine Ev.go step ?_
        rw [blkL]
        by_cases hc : contL (c :: r) = true
        · rw [if_pos hc, hc]
          cases op with
          | false =>
            rw [if_neg (by decide)]
            refine Ev.go (fun k => by rw [header_blocks.j1, if_pos rfl, if_neg (by decide)]) ?_
            exact ih t out false (by omega) (by omega) (by omega) (by simp)
          | true =>
            rw [if_pos rfl]
            rcases snoc2 out with h | ⟨o, nm, m, rfl⟩
            · exact absurd h (hop rfl)
            · have hlen : (hB (o ++ [(nm, m)])).length = o.length + 1 := by simp
              have w1 : wrap64 (((hB (o ++ [(nm, m)])).length : Int) - 1) = ((o.length : Nat) : Int) := by
                rw [hlen]
                simp only [List.length_append] at ho
                have := w64 (x := ((o.length + 1 : Nat) : Int) - 1) (by simp at ho; omega)
                rw [this]; omega
              have hrd : rd_T55 (hB (o ++ [(nm, m)])) ((o.length : Nat) : Int) = ⟨B nm, B m⟩ := by
                unfold rd_T55
                rw [Int.toNat_natCast]
                simp [List.getD_eq_getElem?_getD]
              have hset : (hB (o ++ [(nm, m)])).set o.length ⟨B nm, B m ++ B (c :: r)⟩ = hB (addLast (o ++ [(nm, m)]) (c :: r)) := by
                rw [addLast_snoc, bcat]
                simp
              rw [tot_snoc] at ht
              simp only at ht
              have gs : (B m).size + (B (c :: r)).size ≤ 9223372036854775807 := by rw [bS, bS]; simp only [List.length_cons]; omega
              refine Ev.go (fun k => by rw [header_blocks.j1, if_pos rfl, if_pos rfl, w1, if_pos (by omega), if_pos (by rw [hlen]; omega), hrd, if_pos gs, Int.toNat_natCast, hset]) ?_
              refine ih t _ true (by omega) ?_ ?_ ?_
              · rw [addLast_snoc, tot_snoc]; simp only [List.length_append, List.length_cons]; omega
              · rw [addLast_snoc]; simp only [List.length_append, List.length_cons] at ho ⊢; simp only [List.length_nil] at ho ⊢; omega
              · rw [addLast_snoc]; simp
        · have hc' : contL (c :: r) = false := by simpa using hc
          rw [if_neg hc, hc']
          refine Ev.go (fun k => by rw [header_blocks.j1, if_neg (by decide)]) ?_
          refine Ev.bd (name_ev (c :: r) (by simp only [List.length_cons]; omega)) ?_
          by_cases hn : nmL (c :: r) = []
          · rw [if_pos hn]
            simp only [hn, List.isEmpty_nil, Bool.not_true, Bool.false_eq_true, if_false]
            exact ih t out false (by omega) (by omega) (by omega) (by simp)
          · rw [if_neg hn]
            have hne : (!(nmL (c :: r)).isEmpty) = true := by simp [hn]
            simp only [hne, if_true]
            rw [show hB out ++ [(⟨B (nmL (c :: r)), B (c :: r)⟩ : S55)] = hB (out ++ [(nmL (c :: r), c :: r)]) by simp]
            simp only [if_pos (show (hB out).length < 4398046511104 by rw [List.length_map]; omega)]
            refine ih t _ true (by omega) ?_ ?_ (by simp)
            · rw [tot_snoc]; simp only [List.length_cons]; omega
            · simp only [List.length_append, List.length_cons, List.length_nil]; omega
theorem blocks_f_ev (s : List UInt8) (hl : s.length ≤ 1000000000) : Ev (fun k => header_blocks.f k (B s)) (hB (blkL (linesL s) false [])) :=
  blocks_ev s.length s [] false (Nat.le_refl _) (by simpa [tot] using hl) (by simpa using hl) (by simp)
theorem RBlocks_ev (L : List (List UInt8)) (hL : L.length ≤ 1000000000) (hF : L.flatten.length ≤ 1000000000) (hne : ∀ l ∈ L, l ≠ []) : ∀ (ls a : List (List UInt8)) (out : List P2) (op : Bool), a ++ ls = L → ls.flatten.length + tot out ≤ 1000000000 → out.length ≤ a.length → (op = true → out ≠ []) →
    Ev (fun k => haversackref10_Blocks.l0 k (Bs L) (rB out) op ((a.length : Nat) : Int)) (rB (blkL ls op out))
  | [], a, out, op, ha, ht, ho, hop => by
    have h1 : a = L := by simpa using ha
    subst h1
    exact Ev.now (fun k => by rw [haversackref10_Blocks.l0, if_neg (by simp)]; rfl)
  | l :: ls, a, out, op, ha, ht, ho, hop => by
    have hLl : L.length = a.length + ls.length + 1 := by rw [← ha]; simp; omega
    have hl0 : l ≠ [] := hne l (by rw [← ha]; simp)
    rw [List.flatten_cons, List.length_append] at ht
    have g1 : ((a.length : Nat) : Int) < ((Bs L).length : Int) := by rw [List.length_map]; omega
    have g0 : (0 : Int) ≤ ((a.length : Nat) : Int) := by omega
    have hrd : rdOf ByteArray.empty (Bs L) ((a.length : Nat) : Int) = B l := by
      rw [rdBs L _ (by omega)]
      congr 1
      simp [← ha]
    have w2 : wrap64 (((a.length : Nat) : Int) + 1) = (((a ++ [l]).length : Nat) : Int) := by
      rw [List.length_append]
      exact w64 (x := ((a.length : Nat) : Int) + 1) (by omega)
    have ih := fun out' op' => RBlocks_ev L hL hF hne ls (a ++ [l]) out' op' (by rw [← ha]; simp)
    cases l with
    | nil => exact absurd rfl hl0
    | cons c r =>
      simp only [List.length_cons] at ht
      have gz : (0 : Int) < ((B (c :: r)).size : Int) := by rw [bS]; simp only [List.length_cons]; omega
      have hb : bt (B (c :: r)) 0 = (c.toNat : Int) := btn (c :: r) 0 (by simp)
      have step : ∀ k, haversackref10_Blocks.l0 (k + 1) (Bs L) (rB out) op ((a.length : Nat) : Int) = haversackref10_Blocks.j1 k (Bs L) (rB out) op ((a.length : Nat) : Int) (contL (c :: r)) := by
        intro k
        rw [haversackref10_Blocks.l0, if_pos g1, if_pos g0, hrd, if_pos gz, hb]
        by_cases h32 : c = 32
        · rw [if_pos (t32 h32), (cont_head c r).2 (.inl h32)]
        · rw [if_neg (n32 h32)]
          congr 1
          rw [Bool.eq_iff_iff, cont_head]
          simp only [beq_iff_eq, u9]
          exact ⟨fun h => .inr h, fun h => h.resolve_left h32⟩
      refine Ev.go step ?_
      rw [blkL]
      by_cases hc : contL (c :: r) = true
      · rw [if_pos hc, hc]
        cases op with
        | false =>
          rw [if_neg (by decide)]
          refine Ev.go (fun k => by rw [haversackref10_Blocks.j1, if_pos rfl, if_neg (by decide), w2]) ?_
          exact ih out false (by omega) (by simp; omega) (by simp)
        | true =>
          rw [if_pos rfl]
          rcases snoc2 out with h | ⟨o, nm, m, rfl⟩
          · exact absurd h (hop rfl)
          · have hlen : (rB (o ++ [(nm, m)])).length = o.length + 1 := by simp
            simp only [List.length_append, List.length_cons, List.length_nil] at ho
            have w1 : wrap64 (((rB (o ++ [(nm, m)])).length : Int) - 1) = ((o.length : Nat) : Int) := by
              rw [hlen]
              have := w64 (x := ((o.length + 1 : Nat) : Int) - 1) (by omega)
              rw [this]; omega
            have hrd2 : rd_T59 (rB (o ++ [(nm, m)])) ((o.length : Nat) : Int) = ⟨B nm, B m⟩ := by
              unfold rd_T59
              rw [Int.toNat_natCast]
              simp [List.getD_eq_getElem?_getD]
            have hset : (rB (o ++ [(nm, m)])).set o.length ⟨B nm, B m ++ B (c :: r)⟩ = rB (addLast (o ++ [(nm, m)]) (c :: r)) := by
              rw [addLast_snoc, bcat]
              simp
            rw [tot_snoc] at ht
            simp only at ht
            have gs : (B m).size + (B (c :: r)).size ≤ 9223372036854775807 := by rw [bS, bS]; simp only [List.length_cons]; omega
            refine Ev.go (fun k => by rw [haversackref10_Blocks.j1, if_pos rfl, if_pos rfl, w1, if_pos (by omega), if_pos (by rw [hlen]; omega), if_pos g0, if_pos g1, hrd2, hrd, if_pos gs, Int.toNat_natCast, hset, w2]) ?_
            refine ih _ true ?_ ?_ ?_
            · rw [addLast_snoc, tot_snoc]; simp only [List.length_append, List.length_cons]; omega
            · rw [addLast_snoc]; simp only [List.length_append, List.length_cons, List.length_nil]; omega
            · rw [addLast_snoc]; simp
      · have hc' : contL (c :: r) = false := by simpa using hc
        have hn := RName_f_ev (c :: r) (by simp only [List.length_cons]; omega)
        rw [if_neg hc, hc']
        refine Ev.go (fun k => by rw [haversackref10_Blocks.j1, if_neg (by decide), if_pos g0, if_pos g1, hrd]) ?_
        refine Ev.bd hn ?_
        simp only [btl]
        by_cases hn : nmL (c :: r) = []
        · rw [if_pos hn]
          simp only [if_pos hn]
          rw [show (nmL (c :: r) != []) = false by simp [hn], w2]
          exact ih out false (by omega) (by simp; omega) (by simp)
        · rw [if_neg hn]
          simp only [if_neg hn]
          rw [show (nmL (c :: r) != []) = true by simp [hn], w2]
          rw [show rB out ++ [(⟨B (nmL (c :: r)), B (c :: r)⟩ : S59)] = rB (out ++ [(nmL (c :: r), c :: r)]) by simp]
          simp only [if_pos (show (rB out).length < 4398046511104 by rw [List.length_map]; omega)]
          refine ih _ true ?_ ?_ (by simp)
          · rw [tot_snoc]; simp only [List.length_cons]; omega
          · simp only [List.length_append, List.length_cons, List.length_nil]; omega
theorem RBlocks_f_ev (s : List UInt8) (hl : s.length ≤ 1000000000) : Ev (fun k => haversackref10_Blocks.f k (B s)) (rB (blkL (linesL s) false [])) := by
  refine Ev.bd (Lines_f_ev s hl) ?_
  exact RBlocks_ev (linesL s) (Nat.le_trans (linesL_lenle s) hl) (by rw [linesL_flat]; exact hl) (linesL_ne s) (linesL s) [] [] false rfl (by rw [linesL_flat]; simpa [tot] using hl) (by simp) (by simp)
/-- A block's name stands at the beginning of its lines. -/
def okB (p : P2) : Prop := p.1.length + 1 ≤ p.2.length
theorem nmL_len (l : List UInt8) (h : nmL l ≠ []) : (nmL l).length + 1 ≤ l.length := by
  unfold nmL at h ⊢
  cases hn : nameL l with
  | none => rw [hn] at h; exact absurd rfl h
  | some n =>
    obtain ⟨r, hr, _⟩ := nameL_some l n hn
    have : l.length = n.length + r.length + 1 := by rw [hr]; simp; omega
    simp only [Option.getD_some]
    omega
theorem blk_ok : ∀ (ls : List (List UInt8)) (op : Bool) (out : List P2), (∀ p ∈ out, okB p) → ∀ p ∈ blkL ls op out, okB p
  | [], _, _, h => h
  | l :: ls, op, out, h => by
    rw [blkL]
    have hadd : ∀ p ∈ addLast out l, okB p := by
      rcases snoc2 out with rfl | ⟨o, nm, m, rfl⟩
      · simp [addLast]
      · rw [addLast_snoc]
        intro p hp
        rcases List.mem_append.1 hp with hp | hp
        · exact h p (List.mem_append_left _ hp)
        · have h1 := h (nm, m) (by simp)
          simp only [List.mem_singleton] at hp
          subst hp
          unfold okB at h1 ⊢
          simp only [List.length_append] at h1 ⊢
          omega
    split
    · split
      · exact blk_ok ls op _ hadd
      · exact blk_ok ls op _ h
    · split
      · exact blk_ok ls false _ h
      · rename_i hn
        refine blk_ok ls true _ ?_
        intro p hp
        rcases List.mem_append.1 hp with hp | hp
        · exact h p hp
        · simp only [List.mem_singleton] at hp
          subst hp
          exact nmL_len l hn
theorem addLast_tot (out : List P2) (l : List UInt8) : tot (addLast out l) ≤ tot out + l.length := by
  rcases snoc2 out with rfl | ⟨o, nm, m, rfl⟩
  · simp [addLast, tot]
  · rw [addLast_snoc, tot_snoc, tot_snoc]
    simp only [List.length_append]
    omega
theorem addLast_len (out : List P2) (l : List UInt8) : (addLast out l).length ≤ out.length := by
  rcases snoc2 out with rfl | ⟨o, nm, m, rfl⟩
  · simp [addLast]
  · rw [addLast_snoc]; simp
theorem blk_tot : ∀ (ls : List (List UInt8)) (op : Bool) (out : List P2), tot (blkL ls op out) ≤ tot out + ls.flatten.length ∧ (blkL ls op out).length ≤ out.length + ls.length
  | [], _, _ => by simp [blkL]
  | l :: ls, op, out => by
    rw [blkL, List.flatten_cons, List.length_append, List.length_cons]
    have h1 := addLast_tot out l
    have h1' := addLast_len out l
    split
    · split
      · have := blk_tot ls op (addLast out l)
        omega
      · have := blk_tot ls op out
        omega
    · split
      · have := blk_tot ls false out
        omega
      · have := blk_tot ls true (out ++ [(nmL l, l)])
        rw [tot_snoc, List.length_append] at this
        simp only [List.length_cons, List.length_nil] at this
        omega
theorem mem_tot : ∀ (out : List P2) (p : P2), p ∈ out → p.2.length ≤ tot out
  | q :: out, p, h => by
    unfold tot
    simp only [List.map_cons, List.sum_cons]
    rcases List.mem_cons.1 h with rfl | h
    · omega
    · have := mem_tot out p h
      unfold tot at this
      omega
def fldL (p : P2) : P2 := (p.1, bareL (p.2.drop (p.1.length + 1)))
abbrev fB (l : List P2) : List S37 := l.map fun p => ⟨B p.1, B p.2⟩
def fieldsL (s : List UInt8) : List P2 := (blkL (linesL s) false []).map fldL
theorem Fields_l0 (L : List P2) (hL : L.length ≤ 1000000000) (hF : tot L ≤ 1000000000) (hok : ∀ p ∈ L, okB p) : ∀ (ls a : List P2), a ++ ls = L →
    Ev (fun k => header_Fields.l0 k (fB (a.map fldL)) (hB L) (L.length : Int) ((a.length : Nat) : Int)) (fB (L.map fldL))
  | [], a, ha => by
    have h1 : a = L := by simpa using ha
    subst h1
    exact Ev.now (fun k => by rw [header_Fields.l0, if_neg (by simp)])
  | p :: ls, a, ha => by
    have hLl : L.length = a.length + ls.length + 1 := by rw [← ha]; simp; omega
    have hm : p ∈ L := by rw [← ha]; simp
    have hp : okB p := hok p hm
    have ht := mem_tot L p hm
    unfold okB at hp
    have g1 : ((a.length : Nat) : Int) < (L.length : Int) := by omega
    have g2 : ((a.length : Nat) : Int) < ((hB L).length : Int) := by rw [List.length_map]; omega
    have g0 : (0 : Int) ≤ ((a.length : Nat) : Int) := by omega
    have hrd : rd_T55 (hB L) ((a.length : Nat) : Int) = ⟨B p.1, B p.2⟩ := by
      unfold rd_T55
      rw [Int.toNat_natCast, ← ha]
      simp [List.getD_eq_getElem?_getD]
    have w1 : wrap64 (((B p.1).size : Int) + 1) = ((p.1.length + 1 : Nat) : Int) := by
      rw [bS]
      exact w64 (x := (p.1.length : Int) + 1) (by omega)
    have w2 : wrap64 (((a.length : Nat) : Int) + 1) = (((a ++ [p]).length : Nat) : Int) := by
      rw [List.length_append]
      exact w64 (x := ((a.length : Nat) : Int) + 1) (by omega)
    have ih := Fields_l0 L hL hF hok ls (a ++ [p]) (by rw [← ha]; simp)
    have hx : (B p.2).extract (p.1.length + 1) (B p.2).size = B (p.2.drop (p.1.length + 1)) := by rw [bS]; exact ba_drop p.2 _
    refine Ev.go (fun k => by
      rw [header_Fields.l0, if_pos g1, if_pos g0, if_pos g2, hrd]
      simp only [w1, w2]
      rw [if_pos (by omega), if_pos (by rw [bS]; omega), Int.toNat_natCast, hx, bare_f _ (by simp; omega)]
      simp only [Option.bind_some]
      rw [if_pos (show (fB (a.map fldL)).length < 4398046511104 by rw [List.length_map, List.length_map]; omega)]
      rw [show fB (a.map fldL) ++ [(⟨B p.1, B (bareL (p.2.drop (p.1.length + 1)))⟩ : S37)] = fB ((a ++ [p]).map fldL) by simp [fldL]]) ih
theorem fields_base (s : List UInt8) (hl : s.length ≤ 1000000000) : (blkL (linesL s) false []).length ≤ 1000000000 ∧ tot (blkL (linesL s) false []) ≤ 1000000000 ∧ ∀ p ∈ blkL (linesL s) false [], okB p := by
  have h := blk_tot (linesL s) false []
  rw [linesL_flat] at h
  have h2 := linesL_lenle s
  have h3 : tot [] = 0 := rfl
  rw [h3] at h
  simp only [List.length_nil] at h
  exact ⟨by omega, by omega, blk_ok _ _ _ (by simp)⟩
theorem Fields_f_ev (s : List UInt8) (hl : s.length ≤ 1000000000) : Ev (fun k => header_Fields.f k (B s)) (fB (fieldsL s)) := by
  obtain ⟨h1, h2, h3⟩ := fields_base s hl
  refine Ev.bd (blocks_f_ev s hl) ?_
  have := Fields_l0 _ h1 h2 h3 (blkL (linesL s) false []) [] rfl
  simp only [List.length_map]
  exact this
theorem RFields_l0 (L : List P2) (hL : L.length ≤ 1000000000) (hF : tot L ≤ 1000000000) (hok : ∀ p ∈ L, okB p) : ∀ (ls a : List P2), a ++ ls = L →
    Ev (fun k => haversackref10_Fields.l0 k (rB L) (fB (a.map fldL)) ((a.length : Nat) : Int)) (fB (L.map fldL))
  | [], a, ha => by
    have h1 : a = L := by simpa using ha
    subst h1
    exact Ev.now (fun k => by rw [haversackref10_Fields.l0, if_neg (by simp)])
  | p :: ls, a, ha => by
    have hLl : L.length = a.length + ls.length + 1 := by rw [← ha]; simp; omega
    have hm : p ∈ L := by rw [← ha]; simp
    have hp : okB p := hok p hm
    have ht := mem_tot L p hm
    unfold okB at hp
    have g2 : ((a.length : Nat) : Int) < ((rB L).length : Int) := by rw [List.length_map]; omega
    have g0 : (0 : Int) ≤ ((a.length : Nat) : Int) := by omega
    have hrd : rd_T59 (rB L) ((a.length : Nat) : Int) = ⟨B p.1, B p.2⟩ := by
      unfold rd_T59
      rw [Int.toNat_natCast, ← ha]
      simp [List.getD_eq_getElem?_getD]
    have w1 : wrap64 (((B p.1).size : Int) + 1) = ((p.1.length + 1 : Nat) : Int) := by
      rw [bS]
      exact w64 (x := (p.1.length : Int) + 1) (by omega)
    have w2 : wrap64 (((a.length : Nat) : Int) + 1) = (((a ++ [p]).length : Nat) : Int) := by
      rw [List.length_append]
      exact w64 (x := ((a.length : Nat) : Int) + 1) (by omega)
    have ih := RFields_l0 L hL hF hok ls (a ++ [p]) (by rw [← ha]; simp)
    have hx : (B p.2).extract (p.1.length + 1) (B p.2).size = B (p.2.drop (p.1.length + 1)) := by rw [bS]; exact ba_drop p.2 _
    have glen : (fB (a.map fldL)).length < 4398046511104 := by rw [List.length_map, List.length_map]; omega
    have step : ∀ k, haversackref10_Fields.l0 (k + 1) (rB L) (fB (a.map fldL)) ((a.length : Nat) : Int) = (haversackref10_Bare.f k (B (p.2.drop (p.1.length + 1)))).bind fun t => haversackref10_Fields.l0 k (rB L) (fB (a.map fldL) ++ [(⟨B p.1, t⟩ : S37)]) (((a ++ [p]).length : Nat) : Int) := by
      intro k
      rw [haversackref10_Fields.l0, if_pos g2, if_pos g0, hrd]
      simp only [w1, w2, if_pos glen]
      rw [if_pos (by omega), if_pos (by rw [bS]; omega), Int.toNat_natCast, hx]
    refine Ev.go step ?_
    refine Ev.bd (Bare_ev _ (by simp; omega)) ?_
    rw [show fB (a.map fldL) ++ [(⟨B p.1, B (bareL (p.2.drop (p.1.length + 1)))⟩ : S37)] = fB ((a ++ [p]).map fldL) by simp [fldL]]
    exact ih
theorem RFields_f_ev (s : List UInt8) (hl : s.length ≤ 1000000000) : Ev (fun k => haversackref10_Fields.f k (B s)) (fB (fieldsL s)) := by
  obtain ⟨h1, h2, h3⟩ := fields_base s hl
  refine Ev.bd (RBlocks_f_ev s hl) ?_
  exact RFields_l0 _ h1 h2 h3 (blkL (linesL s) false []) [] rfl
/-- A blank, or, with ends, a line end's byte. -/
def bkE (e : Bool) (c : UInt8) : Bool := c == 32 || (c == 9 || (e && (c == 10 || c == 13)))
def trR (f : UInt8 → Bool) (l : List UInt8) : List UInt8 := (l.reverse.dropWhile f).reverse
def trimE (e : Bool) (l : List UInt8) : List UInt8 := trR (bkE e) (l.dropWhile (bkE e))
theorem trR_snoc (f : UInt8 → Bool) (m : List UInt8) (d : UInt8) : trR f (m ++ [d]) = if f d = true then trR f m else m ++ [d] := by
  unfold trR
  rw [List.reverse_append, List.reverse_singleton, List.singleton_append, List.dropWhile_cons]
  split
  · rfl
  · simp
theorem trR_cons (f : UInt8 → Bool) (c : UInt8) (r : List UInt8) : trR f (c :: r) = if trR f r = [] ∧ f c = true then [] else c :: trR f r := by
  unfold trR
  rw [List.reverse_cons, List.dropWhile_append]
  cases h : List.dropWhile f r.reverse with
  | nil =>
    simp only [List.isEmpty_nil, if_true, List.reverse_nil, true_and]
    by_cases hc : f c = true
    · simp [hc]
    · simp [hc]
  | cons a b => simp
theorem tr_comm (f : UInt8 → Bool) : ∀ l, trR f (l.dropWhile f) = (trR f l).dropWhile f
  | [] => rfl
  | c :: r => by
    rw [trR_cons, List.dropWhile_cons]
    by_cases hc : f c = true
    · rw [if_pos hc, tr_comm f r]
      by_cases h0 : trR f r = []
      · rw [if_pos ⟨h0, hc⟩, h0]
      · rw [if_neg (fun h => h0 h.1), List.dropWhile_cons, if_pos hc]
    · rw [if_neg hc, if_neg (fun h => hc h.2), List.dropWhile_cons, if_neg hc, trR_cons, if_neg (fun h => hc h.2)]
theorem trim_lib (e : Bool) (cs : List UInt8) (h : ∀ c, cs.contains c = bkE e c) (l : List UInt8) : Lib.trimS l cs = trimE e l := by
  unfold trimE
  rw [tr_comm]
  unfold Lib.trimS Lib.trimLeftS Lib.trimRightS trR
  have : (fun x => cs.contains x) = bkE e := funext h
  rw [this]
theorem takeL_trim (l : List UInt8) : takeL l = trimE true l := by
  refine trim_lib true _ (fun c => ?_) l
  unfold bkE
  simp only [List.contains_cons, List.contains_nil, Bool.or_false, Bool.true_and]
  cases (c == 9) <;> cases (c == 10) <;> cases (c == 13) <;> cases (c == 32) <;> rfl
theorem bl_yes {e : Bool} {c : UInt8} (h : c = 32 ∨ c = 9 ∨ (e = true ∧ (c = 10 ∨ c = 13))) : bkE e c = true := by
  unfold bkE
  rcases h with h | h | ⟨h1, h | h⟩ <;> simp [*]
theorem bl_no {e : Bool} {c : UInt8} (h : ¬ c = 32) (h2 : ¬ c = 9) (h3 : e = true → ¬ c = 10 ∧ ¬ c = 13) : bkE e c = false := by
  unfold bkE
  cases e with
  | false => simp [*]
  | true => simp [*]
theorem snoc_o (l : List UInt8) : l = [] ∨ ∃ m d, l = m ++ [d] := by
  rcases List.eq_nil_or_concat l with h | ⟨m, d, h⟩
  · exact .inl h
  · exact .inr ⟨m, d, by simpa using h⟩
theorem trim_r (e : Bool) : ∀ (n : Nat) (l : List UInt8), l.length ≤ n → l.length ≤ 1000000000 → Ev (fun k => haversackref10_Trim.l1 k (B l) e) (B (trR (bkE e) l)) := by
  intro n
  induction n with
  | zero =>
    intro l h1 h2
    obtain rfl : l = [] := List.length_eq_zero_iff.1 (by omega)
    exact Ev.now (fun k => by rw [haversackref10_Trim.l1, if_neg (by decide)]; rfl)
  | succ n ih =>
    intro l h1 h2
    rcases snoc_o l with rfl | ⟨m, d, rfl⟩
    · exact Ev.now (fun k => by rw [haversackref10_Trim.l1, if_neg (by decide)]; rfl)
    · have hlen : (m ++ [d]).length = m.length + 1 := by simp
      have w1 : wrap64 (((B (m ++ [d])).size : Int) - 1) = ((m.length : Nat) : Int) := by
        rw [bS, hlen]
        have := w64 (x := ((m.length + 1 : Nat) : Int) - 1) (by omega)
        rw [this]; omega
      have gp : ((B (m ++ [d])).size : Int) > 0 := by rw [bS, hlen]; omega
      have g0 : (0 : Int) ≤ ((m.length : Nat) : Int) := by omega
      have g1 : ((m.length : Nat) : Int) < ((B (m ++ [d])).size : Int) := by rw [bS, hlen]; omega
      have hb : bt (B (m ++ [d])) ((m.length : Nat) : Int) = (d.toNat : Int) := by
        rw [btn _ _ (by omega)]
        simp
      have hx : (B (m ++ [d])).extract 0 m.length = B m := by
        show ByteArray.extract ⟨(m ++ [d]).toArray⟩ 0 m.length = _
        rw [ba_extract]; simp
      have step : ∀ k, haversackref10_Trim.l1 (k + 1) (B (m ++ [d])) e = (if d = 32 then haversackref10_Trim.l1 k (B m) e else if d = 9 then haversackref10_Trim.l1 k (B m) e else if e = true then (if d = 10 then haversackref10_Trim.l1 k (B m) e else if d = 13 then haversackref10_Trim.l1 k (B m) e else some (B (m ++ [d]))) else some (B (m ++ [d]))) := by
        intro k
        rw [haversackref10_Trim.l1, if_pos gp, w1, if_pos g0, if_pos g1, hb]
        simp only [if_pos (Int.le_of_lt g1), Int.toNat_natCast, hx, u32, u9, u10, u13]
      rw [trR_snoc]
      have next := ih m (by omega) (by omega)
      by_cases h32 : d = 32
      · rw [if_pos (bl_yes (.inl h32))]
        exact Ev.go (fun k => by rw [step, if_pos h32]) next
      · by_cases h9 : d = 9
        · rw [if_pos (bl_yes (.inr (.inl h9)))]
          exact Ev.go (fun k => by rw [step, if_neg h32, if_pos h9]) next
        · by_cases he : e = true
          · by_cases h10 : d = 10
            · rw [if_pos (bl_yes (.inr (.inr ⟨he, .inl h10⟩)))]
              exact Ev.go (fun k => by rw [step, if_neg h32, if_neg h9, if_pos he, if_pos h10]) next
            · by_cases h13 : d = 13
              · rw [if_pos (bl_yes (.inr (.inr ⟨he, .inr h13⟩)))]
                exact Ev.go (fun k => by rw [step, if_neg h32, if_neg h9, if_pos he, if_neg h10, if_pos h13]) next
              · rw [if_neg (by rw [bl_no h32 h9 (fun _ => ⟨h10, h13⟩)]; simp)]
                exact Ev.now (fun k => by rw [step, if_neg h32, if_neg h9, if_pos he, if_neg h10, if_neg h13])
          · rw [if_neg (by rw [bl_no h32 h9 (fun h => absurd h he)]; simp)]
            exact Ev.now (fun k => by rw [step, if_neg h32, if_neg h9, if_neg he])
theorem trim_ev (e : Bool) : ∀ (l : List UInt8), l.length ≤ 1000000000 → Ev (fun k => haversackref10_Trim.f k (B l) e) (B (trimE e l))
  | [], _ => Ev.go (f := fun k => haversackref10_Trim.j1 k (B []) e) (fun k => by rw [haversackref10_Trim.f, haversackref10_Trim.l0, if_neg (by decide)]) (Ev.go (fun k => by rw [haversackref10_Trim.j1]) (trim_r e 0 [] (Nat.le_refl _) (by simp)))
  | c :: r, h => by
    simp only [List.length_cons] at h
    have next := trim_ev e r (by omega)
    have gp : ((B (c :: r)).size : Int) > 0 := by rw [bS]; simp only [List.length_cons]; omega
    have g0 : (0 : Int) < ((B (c :: r)).size : Int) := gp
    have g1 : (1 : Int) ≤ ((B (c :: r)).size : Int) := by omega
    have hb : bt (B (c :: r)) 0 = (c.toNat : Int) := btn (c :: r) 0 (by simp)
    have hx : (B (c :: r)).extract 1 (B (c :: r)).size = B r := by
      rw [bS]
      exact ba_drop (c :: r) 1
    have step : ∀ k, haversackref10_Trim.f (k + 1) (B (c :: r)) e = (if c = 32 then haversackref10_Trim.f k (B r) e else if c = 9 then haversackref10_Trim.f k (B r) e else if e = true then (if c = 10 then haversackref10_Trim.f k (B r) e else if c = 13 then haversackref10_Trim.f k (B r) e else haversackref10_Trim.j1 k (B (c :: r)) e) else haversackref10_Trim.j1 k (B (c :: r)) e) := by
      intro k
      rw [haversackref10_Trim.f, haversackref10_Trim.l0, if_pos gp, if_pos g0, hb]
      simp only [if_pos g1, hx, u32, u9, u10, u13]
      rfl
    have stop : bkE e c = false → Ev (fun k => haversackref10_Trim.j1 k (B (c :: r)) e) (B (trimE e (c :: r))) := by
      intro hc
      unfold trimE
      rw [List.dropWhile_cons, if_neg (by rw [hc]; simp)]
      exact Ev.go (fun k => by rw [haversackref10_Trim.j1]) (trim_r e _ (c :: r) (Nat.le_refl _) (by simpa using h))
    have go : bkE e c = true → trimE e (c :: r) = trimE e r := by
      intro hc
      unfold trimE
      rw [List.dropWhile_cons, if_pos hc]
    by_cases h32 : c = 32
    · rw [go (bl_yes (.inl h32))]
      exact Ev.go (fun k => by rw [step, if_pos h32]) next
    · by_cases h9 : c = 9
      · rw [go (bl_yes (.inr (.inl h9)))]
        exact Ev.go (fun k => by rw [step, if_neg h32, if_pos h9]) next
      · by_cases he : e = true
        · by_cases h10 : c = 10
          · rw [go (bl_yes (.inr (.inr ⟨he, .inl h10⟩)))]
            exact Ev.go (fun k => by rw [step, if_neg h32, if_neg h9, if_pos he, if_pos h10]) next
          · by_cases h13 : c = 13
            · rw [go (bl_yes (.inr (.inr ⟨he, .inr h13⟩)))]
              exact Ev.go (fun k => by rw [step, if_neg h32, if_neg h9, if_pos he, if_neg h10, if_pos h13]) next
            · exact Ev.go (fun k => by rw [step, if_neg h32, if_neg h9, if_pos he, if_neg h10, if_neg h13]) (stop (bl_no h32 h9 (fun _ => ⟨h10, h13⟩)))
        · exact Ev.go (fun k => by rw [step, if_neg h32, if_neg h9, if_neg he]) (stop (bl_no h32 h9 (fun h => absurd h he)))
theorem trimE_len (e : Bool) (l : List UInt8) : (trimE e l).length ≤ l.length := by
  unfold trimE trR
  rw [List.length_reverse]
  refine Nat.le_trans (List.Sublist.length_le (List.dropWhile_sublist _)) ?_
  rw [List.length_reverse]
  exact List.Sublist.length_le (List.dropWhile_sublist _)
end Go.Proofs.YtkngjdhggcaonaaDoor.Pure
