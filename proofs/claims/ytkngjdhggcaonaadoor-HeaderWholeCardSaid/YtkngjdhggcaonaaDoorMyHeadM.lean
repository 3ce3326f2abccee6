/-
  header: the document's lines and their end, names, fields over lists; what HeaderCuts says.
-/
import Derived.Test.YtkngjdhggcaonaaDoorMyHeadL
namespace Go.Proofs.YtkngjdhggcaonaaDoor.Pure
open Go.RowKit Go.Proofs.YtkngjdhggcaonaaDoor.PP Go.Proofs.YtkngjdhggcaonaaDoor.My Go.Proofs.YtkngjdhggcaonaaDoorW.PrintWords Go.Proofs.YtkngjdhggcaonaaDoorW.PrintLast
set_option linter.unusedVariables false
set_option linter.unusedSimpArgs false
abbrev Bs (l : List (List UInt8)) : List ByteArray := l.map (fun x => B x)
theorem rdBs (l : List (List UInt8)) (i : Nat) (h : i < l.length) : rdOf ByteArray.empty (Bs l) (i : Int) = B l[i] := by
  unfold rdOf
  simp [Bs, List.getD_eq_getElem?_getD, h]
theorem linesL_lenle (s : List UInt8) : (linesL s).length ≤ s.length := by
  induction s with
  | nil => simp [linesL]
  | cons c r ih =>
    rw [linesL]
    split
    · simp only [List.length_cons]; omega
    · split
      · simp
      · rename_i h
        rw [h] at ih
        simp only [List.length_cons] at ih ⊢
        omega
theorem linesL_ne : ∀ s, ∀ l ∈ linesL s, l ≠ []
  | [], _, h => by simp [linesL] at h
  | c :: r, l, h => by
    rw [linesL] at h
    split at h
    · rcases List.mem_cons.1 h with rfl | h
      · simp
      · exact linesL_ne r l h
    · cases hr : linesL r with
      | nil =>
        rw [hr] at h
        simp only [List.mem_singleton] at h
        rw [h]; simp
      | cons a b =>
        rw [hr] at h
        rcases List.mem_cons.1 h with rfl | h
        · simp
        · exact linesL_ne r l (by rw [hr]; exact List.mem_cons_of_mem _ h)
theorem Lines_ev (s : List UInt8) (hl : s.length ≤ 1000000000) : ∀ (r a p : List UInt8) (out : List (List UInt8)), a ++ p ++ r = s → (r = [] → p = []) → 10 ∉ p → out.length ≤ a.length →
    Ev (fun k => haversackref10_Lines.l0 k (B s) (Bs out) ((a.length : Nat) : Int) ((a.length + p.length : Nat) : Int)) (Bs (out ++ linesL (p ++ r)))
  | [], a, p, out, hs, hp, h10, ho => by
    obtain rfl := hp rfl
    have hlen : s.length = a.length := by rw [← hs]; simp
    refine Ev.now (fun k => ?_)
    rw [haversackref10_Lines.l0, if_neg (by rw [bS, hlen]; simp)]
    simp [linesL]
  | c :: r, a, p, out, hs, hp, h10, ho => by
    have hlen : s.length = a.length + p.length + r.length + 1 := by rw [← hs]; simp; omega
    have hb : bt (B s) ((a.length + p.length : Nat) : Int) = (c.toNat : Int) := by
      rw [btn s _ (by omega)]
      congr 2
      simp only [← hs]
      rw [List.getElem_append_right (by simp)]
      simp
    have g1 : ((a.length + p.length : Nat) : Int) < ((B s).size : Int) := by rw [bS]; omega
    have g0 : (0 : Int) ≤ ((a.length + p.length : Nat) : Int) := by omega
    have ga : (0 : Int) ≤ ((a.length : Nat) : Int) := by omega
    have w1 : wrap64 (((a.length + p.length : Nat) : Int) + 1) = ((a.length + p.length + 1 : Nat) : Int) := w64 (x := ((a.length + p.length : Nat) : Int) + 1) (by omega)
    have w2 : wrap64 (((B s).size : Int) - 1) = ((a.length + p.length + r.length : Nat) : Int) := by
      rw [bS, hlen]
      have := w64 (x := ((a.length + p.length + r.length + 1 : Nat) : Int) - 1) (by omega)
      rw [this]; omega
    have g2 : ((a.length : Nat) : Int) ≤ ((a.length + p.length + 1 : Nat) : Int) := by omega
    have g3 : ((a.length + p.length + 1 : Nat) : Int) ≤ ((B s).size : Int) := by rw [bS]; omega
    have g4 : (Bs out).length < 8796093022208 := by rw [List.length_map]; omega
    have hx : (B s).extract a.length (a.length + p.length + 1) = B (p ++ [c]) := by
      rw [bex, ← hs]
      have e1 : a ++ p ++ c :: r = (a ++ (p ++ [c])) ++ r := by simp
      rw [e1, List.take_left' (by simp; omega), List.drop_left]
    have push : Bs out ++ [B (p ++ [c])] = Bs (out ++ [p ++ [c]]) := by simp [Bs]
    by_cases hc : c = 10
    · subst hc
      refine Ev.go (fun k => by rw [haversackref10_Lines.l0, if_pos g1, if_pos g0, hb, if_pos (t10 rfl), if_pos ga, w1, if_pos g2, if_pos g3, if_pos g4, Int.toNat_natCast, Int.toNat_natCast, hx, push]) ?_
      have := Lines_ev s hl r (a ++ (p ++ [10])) [] (out ++ [p ++ [10]]) (by rw [← hs]; simp) (fun _ => rfl) (by simp) (by simp; omega)
      rw [linesL_line p r h10]
      simp only [List.length_append, List.length_cons, List.length_nil, List.append_assoc, List.nil_append, List.cons_append, Nat.add_zero, ← Nat.add_assoc, Nat.zero_add] at this ⊢
      exact this
    · have hp10 : 10 ∉ p ++ [c] := by simp [h10, Ne.symm hc]
      cases r with
      | nil =>
        refine Ev.go (fun k => by rw [haversackref10_Lines.l0, if_pos g1, if_pos g0, hb, if_neg (n10 hc), w2, if_pos (by simp), if_pos ga, w1, if_pos g2, if_pos g3, if_pos g4, Int.toNat_natCast, Int.toNat_natCast, hx, push]) ?_
        have := Lines_ev s hl [] (a ++ (p ++ [c])) [] (out ++ [p ++ [c]]) (by rw [← hs]; simp) (fun _ => rfl) (by simp) (by simp; omega)
        rw [linesL_last (p ++ [c]) hp10 (by simp)]
        simp only [List.length_append, List.length_cons, List.length_nil, List.append_assoc, List.nil_append, List.cons_append, Nat.add_zero, ← Nat.add_assoc, Nat.zero_add, linesL, List.append_nil] at this ⊢
        exact this
      | cons d r =>
        refine Ev.go (fun k => by rw [haversackref10_Lines.l0, if_pos g1, if_pos g0, hb, if_neg (n10 hc), w2, if_neg (by simp; omega), w1]) ?_
        have := Lines_ev s hl (d :: r) a (p ++ [c]) out (by rw [← hs]; simp) (by simp) hp10 ho
        simp only [List.length_append, List.length_cons, List.length_nil, List.append_assoc, List.nil_append, List.cons_append, Nat.add_zero, ← Nat.add_assoc, Nat.zero_add] at this ⊢
        exact this
theorem Lines_f_ev (s : List UInt8) (hl : s.length ≤ 1000000000) : Ev (fun k => haversackref10_Lines.f k (B s)) (Bs (linesL s)) :=
  Lines_ev s hl s [] [] [] (by simp) (fun _ => rfl) (by simp) (by simp)
/-- The document's end of the header. -/
theorem RCut_ev (s : List UInt8) (hl : s.length ≤ 1000000000) (L : List (List UInt8)) (hL : L.length ≤ 1000000000) (hne : ∀ l ∈ L, l ≠ []) : ∀ (ls a : List (List UInt8)) (p : List UInt8), a ++ ls = L → p ++ ls.flatten = s →
    Ev (fun k => haversackref10_Cut.l0 k (B s) (Bs L) ((p.length : Nat) : Int) ((a.length : Nat) : Int)) (B (p ++ (cutP ls).1), B (cutP ls).2)
  | [], a, p, ha, hp => by
    have h1 : a = L := by simpa using ha
    have h2 : p = s := by simpa using hp
    subst h1 h2
    exact Ev.now (fun k => by rw [haversackref10_Cut.l0, if_neg (by simp)]; simp [cutP])
  | l :: ls, a, p, ha, hp => by
    have hLl : L.length = a.length + ls.length + 1 := by rw [← ha]; simp; omega
    have hsl : s.length = p.length + l.length + ls.flatten.length := by rw [← hp]; simp; omega
    have hl0 : l ≠ [] := hne l (by rw [← ha]; simp)
    have g1 : ((a.length : Nat) : Int) < ((Bs L).length : Int) := by rw [List.length_map]; omega
    have g0 : (0 : Int) ≤ ((a.length : Nat) : Int) := by omega
    have hrd : rdOf ByteArray.empty (Bs L) ((a.length : Nat) : Int) = B l := by
      rw [rdBs L _ (by omega)]
      congr 1
      simp [← ha]
    have w1 : wrap64 (((p.length : Nat) : Int) + ((B l).size : Int)) = (((p ++ l).length : Nat) : Int) := by
      rw [bS, List.length_append]
      have := w64 (x := ((p.length : Nat) : Int) + (l.length : Int)) (by omega)
      rw [this]; omega
    have w2 : wrap64 (((a.length : Nat) : Int) + 1) = (((a ++ [l]).length : Nat) : Int) := by
      rw [List.length_append]
      exact w64 (x := ((a.length : Nat) : Int) + 1) (by omega)
    have ih := RCut_ev s hl L hL hne ls (a ++ [l]) (p ++ l) (by rw [← ha]; simp) (by rw [← hp]; simp)
    rcases snoc_or l with h | ⟨m, d, hm⟩
    · exact absurd h hl0
    have hml : l.length = m.length + 1 := by rw [hm]; simp
    have w3 : wrap64 (((B l).size : Int) - 1) = ((m.length : Nat) : Int) := by
      rw [bS, hml]
      have := w64 (x := ((m.length + 1 : Nat) : Int) - 1) (by omega)
      rw [this]; omega
    have hb : bt (B l) ((m.length : Nat) : Int) = (d.toNat : Int) := by
      rw [btn l _ (by omega)]
      simp [hm]
    have g3 : (0 : Int) ≤ ((m.length : Nat) : Int) := by omega
    have g4 : ((m.length : Nat) : Int) < ((B l).size : Int) := by rw [bS]; omega
    have hlast : l.getLast? = some d := by rw [hm]; simp
    have hbare : Ev (fun k => haversackref10_Bare.f k (rdOf ByteArray.empty (Bs L) ((a.length : Nat) : Int))) (B (bareL l)) := by
      rw [hrd]
      exact Bare_ev l (by omega)
    have g5 : (0 : Int) ≤ (((p ++ l).length : Nat) : Int) := by omega
    have g6 : (((p ++ l).length : Nat) : Int) ≤ ((B s).size : Int) := by rw [bS]; simp; omega
    have hs1 : s = (p ++ l) ++ ls.flatten := by rw [← hp]; simp
    by_cases he : bareL l = []
    · by_cases h10 : d = 10
      · have hem : emptyL l = true := by unfold emptyL; simp [hlast, h10, he]
        rw [cutP, if_pos hem]
        refine Ev.go (fun k => by rw [haversackref10_Cut.l0, if_pos g1, if_pos g0]) ?_
        refine Ev.bd hbare ?_
        simp only [hrd, btl, if_pos he, w3, if_pos g3, if_pos g4, hb, if_pos (t10 h10), w1, if_pos g5, if_pos g6, Int.toNat_natCast, bex, List.drop_zero]
        have e1 : s.take (p ++ l).length = p ++ l := by rw [hs1, List.take_left' rfl]
        have e2 : (s.take (B s).size).drop (p ++ l).length = ls.flatten := by rw [bS, List.take_of_length_le (Nat.le_refl _), hs1, List.drop_left' rfl]
        rw [e1, e2]
        exact Ev.ret _
      · have hem : ¬ emptyL l = true := by unfold emptyL; simp [hlast, h10]
        rw [cutP, if_neg hem]
        refine Ev.go (fun k => by rw [haversackref10_Cut.l0, if_pos g1, if_pos g0]) ?_
        refine Ev.bd hbare ?_
        simp only [hrd, btl, if_pos he, w3, if_pos g3, if_pos g4, hb, if_neg (n10 h10), w1, w2]
        simpa only [List.append_assoc] using ih
    · have hem : ¬ emptyL l = true := by unfold emptyL; simp [he]
      rw [cutP, if_neg hem]
      refine Ev.go (fun k => by rw [haversackref10_Cut.l0, if_pos g1, if_pos g0]) ?_
      refine Ev.bd hbare ?_
      simp only [hrd, btl, if_neg he, w1, w2]
      simpa only [List.append_assoc] using ih
theorem RCut_f_ev (s : List UInt8) (hl : s.length ≤ 1000000000) : Ev (fun k => haversackref10_Cut.f k (B s)) (B (cutL s).1, B (cutL s).2) := by
  refine Ev.bd (Lines_f_ev s hl) ?_
  have := RCut_ev s hl (linesL s) (Nat.le_trans (linesL_lenle s) hl) (linesL_ne s) (linesL s) [] [] rfl (by rw [List.nil_append, linesL_flat])
  simp only [List.nil_append] at this
  exact this
/-! ### Names -/
def nameL : List UInt8 → Option (List UInt8)
  | [] => none
  | c :: r => if c = 58 then some [] else if c < 33 ∨ c > 126 then none else (nameL r).map (c :: ·)
def nmL (l : List UInt8) : List UInt8 := (nameL l).getD []
theorem nameL_some : ∀ (l n : List UInt8), nameL l = some n → ∃ r, l = n ++ 58 :: r ∧ ∀ c ∈ n, ¬ c = 58 ∧ ¬ c < 33 ∧ ¬ c > 126
  | [], n, h => by simp [nameL] at h
  | c :: l, n, h => by
    rw [nameL] at h
    by_cases h1 : c = 58
    · rw [if_pos h1] at h
      injection h with h
      subst h h1
      exact ⟨l, rfl, by simp⟩
    · rw [if_neg h1] at h
      by_cases h2 : c < 33 ∨ c > 126
      · rw [if_pos h2] at h; cases h
      · rw [if_neg h2] at h
        cases h3 : nameL l with
        | none => rw [h3] at h; cases h
        | some m =>
          rw [h3] at h
          injection h with h
          subst h
          obtain ⟨r, rfl, h4⟩ := nameL_some l m h3
          refine ⟨r, rfl, ?_⟩
          intro x hx
          rcases List.mem_cons.1 hx with rfl | hx
          · exact ⟨h1, fun e => h2 (.inl e), fun e => h2 (.inr e)⟩
          · exact h4 x hx
theorem u33 (c : UInt8) : ((c.toNat : Int) < 33) = (c < 33) := by
  rw [eq_iff_iff, UInt8.lt_iff_toNat_lt]
  show _ ↔ c.toNat < 33
  omega
theorem u126 (c : UInt8) : ((c.toNat : Int) > 126) = (c > 126) := by
  rw [eq_iff_iff]
  show _ ↔ (126 : UInt8) < c
  rw [UInt8.lt_iff_toNat_lt]
  show _ ↔ 126 < c.toNat
  omega
theorem u58 (c : UInt8) : ((c.toNat : Int) = 58) = (c = 58) := by
  rw [show (58 : Int) = ((58 : UInt8).toNat : Int) from rfl, u8i]
theorem t58 {c : UInt8} (h : c = 58) : (c.toNat : Int) = 58 := (u58 c).mpr h
theorem n58 {c : UInt8} (h : ¬ c = 58) : ¬ (c.toNat : Int) = 58 := fun e => h ((u58 c).mp e)
theorem t33 {c : UInt8} (h : c < 33) : (c.toNat : Int) < 33 := (u33 c).mpr h
theorem n33 {c : UInt8} (h : ¬ c < 33) : ¬ (c.toNat : Int) < 33 := fun e => h ((u33 c).mp e)
theorem t126 {c : UInt8} (h : c > 126) : (c.toNat : Int) > 126 := (u126 c).mpr h
theorem n126 {c : UInt8} (h : ¬ c > 126) : ¬ (c.toNat : Int) > 126 := fun e => h ((u126 c).mp e)
theorem RName_ev (s : List UInt8) (hl : s.length ≤ 1000000000) : ∀ (r p : List UInt8), p ++ r = s →
    Ev (fun k => haversackref10_Name.l0 k (B s) ((p.length : Nat) : Int)) (B (match nameL r with | none => [] | some n => p ++ n))
  | [], p, hp => by
    have h1 : p = s := by simpa using hp
    subst h1
    exact Ev.now (fun k => by rw [haversackref10_Name.l0, if_neg (by rw [bS]; simp)]; rfl)
  | c :: r, p, hp => by
    have hsl : s.length = p.length + r.length + 1 := by rw [← hp]; simp; omega
    have hb : bt (B s) ((p.length : Nat) : Int) = (c.toNat : Int) := by
      rw [btn s _ (by omega)]
      congr 2
      simp only [← hp]
      rw [List.getElem_append_right (by simp)]
      simp
    have g1 : ((p.length : Nat) : Int) < ((B s).size : Int) := by rw [bS]; omega
    have g0 : (0 : Int) ≤ ((p.length : Nat) : Int) := by omega
    have w1 : wrap64 (((p.length : Nat) : Int) + 1) = (((p ++ [c]).length : Nat) : Int) := by
      rw [List.length_append]
      exact w64 (x := ((p.length : Nat) : Int) + 1) (by omega)
    have ih := RName_ev s hl r (p ++ [c]) (by rw [← hp]; simp)
    by_cases h1 : c = 58
    · refine Ev.now (fun k => ?_)
      rw [haversackref10_Name.l0, if_pos g1, if_pos g0, hb, if_pos (t58 h1), if_pos (Int.le_of_lt g1), Int.toNat_natCast, bex, nameL, if_pos h1, ← hp]
      simp
    · by_cases h2 : c < 33
      · refine Ev.now (fun k => ?_)
        rw [haversackref10_Name.l0, if_pos g1, if_pos g0, hb, if_neg (n58 h1), if_pos (t33 h2), nameL, if_neg h1, if_pos (.inl h2)]
      · by_cases h3 : c > 126
        · refine Ev.now (fun k => ?_)
          rw [haversackref10_Name.l0, if_pos g1, if_pos g0, hb, if_neg (n58 h1), if_neg (n33 h2), if_pos (t126 h3), nameL, if_neg h1, if_pos (.inr h3)]
        · refine Ev.go (fun k => by rw [haversackref10_Name.l0, if_pos g1, if_pos g0, hb, if_neg (n58 h1), if_neg (n33 h2), if_neg (n126 h3), w1]) ?_
          rw [nameL, if_neg h1, if_neg (by simp only [not_or]; exact ⟨h2, h3⟩)]
          cases hr : nameL r with
          | none => rw [hr] at ih; exact ih
          | some n => rw [hr] at ih; simpa using ih
theorem RName_f_ev (s : List UInt8) (hl : s.length ≤ 1000000000) : Ev (fun k => haversackref10_Name.f k (B s)) (B (nmL s)) := by
  have := RName_ev s hl s [] rfl
  unfold nmL
  cases h : nameL s with
  | none => rw [h] at this; exact this
  | some n =>
    rw [h] at this
    simp only [List.nil_append] at this
    exact this
end Go.Proofs.YtkngjdhggcaonaaDoor.Pure
