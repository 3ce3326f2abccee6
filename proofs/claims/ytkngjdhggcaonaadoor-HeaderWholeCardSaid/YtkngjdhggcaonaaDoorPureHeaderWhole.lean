import Derived.Test.YtkngjdhggcaonaaDoorPPx29
import Derived.Test.YtkngjdhggcaonaaDoorMyHeadO
namespace Go.Proofs.YtkngjdhggcaonaaDoor.Pure
open Go.RowKit Go.Proofs.YtkngjdhggcaonaaDoor.PP Go.Proofs.YtkngjdhggcaonaaDoor.My Go.Proofs.YtkngjdhggcaonaaDoorW.PrintWords Go.Proofs.YtkngjdhggcaonaaDoorW.PrintLast
set_option linter.unusedVariables false
set_option linter.unusedSimpArgs false
theorem lineL_form : ∀ s, s ≠ [] → (∃ p, 10 ∉ p ∧ (lineL s).1 = p ++ [10]) ∨ ((lineL s).2 = [] ∧ 10 ∉ s ∧ (lineL s).1 = s)
  | [], h => absurd rfl h
  | c :: r, _ => by
    rw [lineL]
    by_cases h : c = 10
    · rw [if_pos h]
      exact .inl ⟨[], by simp, rfl⟩
    · rw [if_neg h]
      by_cases hr : r = []
      · subst hr
        exact .inr ⟨rfl, by simpa using Ne.symm h, rfl⟩
      · rcases lineL_form r hr with ⟨p, h1, h2⟩ | ⟨h1, h2, h3⟩
        · exact .inl ⟨c :: p, by simp [h1, Ne.symm h], by simp [h2]⟩
        · exact .inr ⟨h1, by simp [h2, Ne.symm h], by simp [h3]⟩
theorem cutL_step (s : List UInt8) (h0 : s ≠ []) : cutL s = if emptyL (lineL s).1 = true then ((lineL s).1, (lineL s).2) else ((lineL s).1 ++ (cutL (lineL s).2).1, (cutL (lineL s).2).2) := by
  unfold cutL
  rw [linesL_cons s h0, cutP, linesL_flat]
theorem cutL_nil : cutL [] = ([], []) := rfl
theorem empty_last {l : List UInt8} (h : emptyL l = true) : l.getLast? = some 10 := by
  unfold emptyL at h
  simp only [Bool.and_eq_true, decide_eq_true_eq] at h
  exact h.1
theorem cutL_line (p r : List UInt8) (h : 10 ∉ p) : cutL (p ++ 10 :: r) = if emptyL (p ++ [10]) = true then (p ++ [10], r) else (p ++ [10] ++ (cutL r).1, (cutL r).2) := by
  unfold cutL
  rw [linesL_line p r h, cutP, linesL_flat]
theorem cut_again : ∀ (n : Nat) (s : List UInt8), s.length ≤ n → cutL (cutL s).1 = ((cutL s).1, []) := by
  intro n
  induction n with
  | zero =>
    intro s hs
    obtain rfl : s = [] := List.length_eq_zero_iff.1 (by omega)
    rfl
  | succ n ih =>
    intro s hs
    by_cases h0 : s = []
    · subst h0; rfl
    · have hle := lineL_len s
      have hne := lineL_ne s h0
      have hpos : 1 ≤ (lineL s).1.length := by
        cases h : (lineL s).1 with
        | nil => exact absurd h hne
        | cons a b => simp
      rw [cutL_step s h0]
      rcases lineL_form s h0 with ⟨p, h1, h2⟩ | ⟨h1, h2, h3⟩
      · rw [h2]
        by_cases he : emptyL (p ++ [10]) = true
        · rw [if_pos he]
          show cutL (p ++ [10]) = _
          rw [cutL_line p [] h1, if_pos he]
        · rw [if_neg he]
          have := ih (lineL s).2 (by omega)
          show cutL (p ++ [10] ++ (cutL (lineL s).2).1) = _
          rw [List.append_assoc, List.singleton_append, cutL_line p _ h1, if_neg he, this]
          simp
      · have he : ¬ emptyL (lineL s).1 = true := by
          intro he
          have := empty_last he
          rw [h3] at this
          exact h2 (List.mem_of_getLast? this)
        rw [if_neg he, h1, cutL_nil]
        show cutL ((lineL s).1 ++ []) = _
        rw [List.append_nil, h3, cutL_step s h0, if_neg he, h1, cutL_nil, h3, List.append_nil]
/-- A header with something behind it ends with an empty line. -/
theorem cut_struct : ∀ (n : Nat) (s : List UInt8), s.length ≤ n → (cutL s).2 = [] ∨ ∃ (ls : List (List UInt8)) (e : List UInt8), linesL (cutL s).1 = ls ++ [e] ∧ emptyL e = true ∧ linesL ls.flatten = ls ∧ (cutL s).1 = ls.flatten ++ e ∧ (ls.flatten = [] ∨ ls.flatten.getLast? = some 10) := by
  intro n
  induction n with
  | zero =>
    intro s hs
    obtain rfl : s = [] := List.length_eq_zero_iff.1 (by omega)
    exact .inl rfl
  | succ n ih =>
    intro s hs
    by_cases h0 : s = []
    · subst h0; exact .inl rfl
    · have hle := lineL_len s
      have hne := lineL_ne s h0
      have hpos : 1 ≤ (lineL s).1.length := by
        cases h : (lineL s).1 with
        | nil => exact absurd h hne
        | cons a b => simp
      rw [cutL_step s h0]
      rcases lineL_form s h0 with ⟨p, h1, h2⟩ | ⟨h1, h2, h3⟩
      · rw [h2]
        by_cases he : emptyL (p ++ [10]) = true
        · rw [if_pos he]
          refine .inr ⟨[], p ++ [10], ?_, he, rfl, rfl, .inl rfl⟩
          show linesL (p ++ [10]) = _
          rw [linesL_line p [] h1]; rfl
        · rw [if_neg he]
          rcases ih (lineL s).2 (by omega) with h | ⟨ls, e, i1, i2, i3, i4, i5⟩
          · exact .inl h
          · refine .inr ⟨(p ++ [10]) :: ls, e, ?_, i2, ?_, ?_, ?_⟩
            · show linesL (p ++ [10] ++ (cutL (lineL s).2).1) = _
              rw [List.append_assoc, List.singleton_append, linesL_line p _ h1, i1]; rfl
            · rw [List.flatten_cons, List.append_assoc, List.singleton_append, linesL_line p _ h1, i3]
            · show p ++ [10] ++ (cutL (lineL s).2).1 = _
              rw [i4]; simp
            · right
              rw [List.flatten_cons]
              rcases i5 with h | h
              · rw [h]; simp
              · rw [List.getLast?_append, h]; rfl
      · have he : ¬ emptyL (lineL s).1 = true := by
          intro he
          have := empty_last he
          rw [h3] at this
          exact h2 (List.mem_of_getLast? this)
        rw [if_neg he, h1, cutL_nil]
        exact .inl rfl
theorem empty_form {e : List UInt8} (h : emptyL e = true) : e = [10] ∨ e = [13, 10] := by
  unfold emptyL at h
  simp only [Bool.and_eq_true, decide_eq_true_eq] at h
  obtain ⟨h1, h2⟩ := h
  unfold bareL at h2
  rw [if_pos h1] at h2
  rcases snoc_or e with rfl | ⟨m, d, rfl⟩
  · simp at h1
  · simp only [List.getLast?_append, List.getLast?_singleton, Option.some_or, Option.some.injEq] at h1
    subst h1
    rw [List.dropLast_concat] at h2
    unfold chopC at h2
    rcases snoc_or m with rfl | ⟨k, f, rfl⟩
    · exact .inl rfl
    · split at h2
      · rename_i h
        simp only [List.getLast?_append, List.getLast?_singleton, Option.some_or, Option.some.injEq] at h
        subst h
        rw [List.dropLast_concat] at h2
        subst h2
        exact .inr rfl
      · simp at h2
theorem blk_empty (e : List UInt8) (he : e = [10] ∨ e = [13, 10]) : ∀ (ls : List (List UInt8)) (op : Bool) (out : List P2), blkL (ls ++ [e]) op out = blkL ls op out
  | [], op, out => by
    have h1 : contL e = false := by rcases he with rfl | rfl <;> rfl
    have h2 : nmL e = [] := by rcases he with rfl | rfl <;> rfl
    simp [blkL, h1, h2]
  | l :: ls, op, out => by
    rw [List.cons_append, blkL, blkL]
    simp only [blk_empty e he ls]
/-- Without the empty line at its end a header has the same fields. -/
theorem fields_bare (s : List UInt8) (hb : (cutL s).2 ≠ []) (h2 : 2 ≤ (cutL s).1.length) (hd : (cutL s).1.drop ((cutL s).1.length - 2) = [13, 10]) :
    fieldsL ((cutL s).1.take ((cutL s).1.length - 2)) = fieldsL (cutL s).1 := by
  rcases cut_struct s.length s (Nat.le_refl _) with h | ⟨ls, e, i1, i2, i3, i4, i5⟩
  · exact absurd h hb
  · have he := empty_form i2
    have key : e = [13, 10] := by
      rcases he with he | he
      · exfalso
        rw [i4, he] at hd h2
        rcases i5 with h | h
        · rw [h] at h2; simp at h2
        · rcases snoc_or ls.flatten with h' | ⟨m, d, h'⟩
          · rw [h'] at h; simp at h
          · rw [h'] at h hd
            simp only [List.getLast?_append, List.getLast?_singleton, Option.some_or, Option.some.injEq] at h
            subst h
            have : (m ++ [10] ++ [10]).length - 2 = m.length := by simp
            rw [this, List.append_assoc, List.drop_left] at hd
            simp at hd
      · exact he
    subst key
    unfold fieldsL
    rw [i1, blk_empty _ (.inr rfl)]
    have : (cutL s).1.take ((cutL s).1.length - 2) = ls.flatten := by
      rw [i4]
      have : (ls.flatten ++ [13, 10]).length - 2 = ls.flatten.length := by simp
      rw [this, List.take_left' rfl]
    rw [this, i3]
theorem wj3 (h b x : List UInt8) (hh : h.length ≤ 1000000000) (hx : x.length ≤ 1000000000) (hf : b = [] ∨ fieldsL x = fieldsL h) : Ev (fun k => haversacklaw10_HeaderWhole.j3 k (B h) (B b) (B x)) true := by
  by_cases h0 : b = []
  · exact Ev.go (fun k => by rw [haversacklaw10_HeaderWhole.j3, if_pos (show (B b).toList = [] by rw [btl]; exact h0)]) (Ev.bd alive_ev (Ev.ret true))
  · refine Ev.go (fun k => by rw [haversacklaw10_HeaderWhole.j3, if_neg (show ¬ (B b).toList = [] by rw [btl]; exact h0)]) ?_
    refine Ev.bd (Fields_f_ev h hh) ?_
    refine Ev.bd (Fields_f_ev x hx) ?_
    rw [hf.resolve_left h0]
    refine Ev.bd (same_ev _ (fieldsL_len h hh)) ?_
    simp only [if_true]
    exact Ev.bd alive_ev (Ev.ret true)
theorem wj2 (h b : List UInt8) (t : Bool) (hh : h.length ≤ 1000000000) (hf : t = true → 2 ≤ h.length ∧ (b = [] ∨ fieldsL (h.take (h.length - 2)) = fieldsL h)) : Ev (fun k => haversacklaw10_HeaderWhole.j2 k (B h) (B b) (B h) t) true := by
  cases t with
  | false => exact Ev.go (fun k => by rw [haversacklaw10_HeaderWhole.j2, if_neg (by decide)]) (wj3 h b h hh hh (.inr rfl))
  | true =>
    obtain ⟨h2, h3⟩ := hf rfl
    have w1 : wrap64 (((B h).size : Int) - 2) = ((h.length - 2 : Nat) : Int) := by
      rw [bS]
      have := w64 (x := (h.length : Int) - 2) (by omega)
      rw [this]; omega
    refine Ev.go (fun k => by rw [haversacklaw10_HeaderWhole.j2, if_pos rfl, w1, if_pos (by omega), if_pos (by rw [bS]; omega), Int.toNat_natCast, bex, List.drop_zero]) ?_
    exact wj3 h b _ hh (by simp; omega) h3
theorem wj1 (h b : List UInt8) (hh : h.length ≤ 1000000000) (hf : b ≠ [] → 2 ≤ h.length → h.drop (h.length - 2) = [13, 10] → fieldsL (h.take (h.length - 2)) = fieldsL h) : Ev (fun k => haversacklaw10_HeaderWhole.j1 k (B h) (B b) false) true := by
  by_cases h2 : 2 ≤ h.length
  · have w1 : wrap64 (((B h).size : Int) - 2) = ((h.length - 2 : Nat) : Int) := by
      rw [bS]
      have := w64 (x := (h.length : Int) - 2) (by omega)
      rw [this]; omega
    have hx : (B h).extract (h.length - 2) (B h).size = B (h.drop (h.length - 2)) := by rw [bS]; exact ba_drop h _
    refine Ev.go (fun k => by rw [haversacklaw10_HeaderWhole.j1, if_neg (by decide), if_pos (show ((B h).size : Int) ≥ 2 by rw [bS]; omega), w1, if_pos (by omega), if_pos (by rw [bS]; omega), Int.toNat_natCast, hx, btl]) ?_
    refine wj2 h b _ hh ?_
    intro ht
    refine ⟨h2, ?_⟩
    by_cases h0 : b = []
    · exact .inl h0
    · exact .inr (hf h0 h2 (by simpa using ht))
  · exact Ev.go (fun k => by rw [haversacklaw10_HeaderWhole.j1, if_neg (by decide), if_neg (show ¬ ((B h).size : Int) ≥ 2 by rw [bS]; omega)]) (wj2 h b false hh (by simp))
theorem HeaderWhole : haversacklaw10_HeaderWhole.Pure := by
  intro a0 _
  obtain ⟨s, rfl⟩ := isB a0
  have main : Ev (fun k => haversacklaw10_HeaderWhole.f k (B s)) true := by
    by_cases h1 : ((B s).size : Int) > 20000
    · exact Ev.same (fun k => by rw [haversacklaw10_HeaderWhole.f, if_pos h1]) (Ev.bd alive_ev (Ev.ret true))
    · have hs : s.length ≤ 20000 := by rw [bS] at h1; omega
      refine Ev.same (fun k => by rw [haversacklaw10_HeaderWhole.f, if_neg h1]) ?_
      refine Ev.bd (Cut_f_ev s (by omega)) ?_
      have hflat : (cutL s).1 ++ (cutL s).2 = s := by
        unfold cutL
        rw [cutP_flat, linesL_flat]
      have hlen : (cutL s).1.length + (cutL s).2.length = s.length := by rw [← List.length_append, hflat]
      have hagain := cut_again s.length s (Nat.le_refl _)
      have hbare := fields_bare s
      have hend : (cutL s).2 ≠ [] → (cutL s).1.getLast? = some 10 := by
        intro hb
        rcases cut_struct s.length s (Nat.le_refl _) with h | ⟨ls, e, i1, i2, i3, i4, i5⟩
        · exact absurd h hb
        · rw [i4, List.getLast?_append, empty_last i2]; rfl
      have hnil : (cutL s).1 = [] → s = [] := by
        intro h
        by_cases h0 : s = []
        · exact h0
        · exfalso
          rw [cutL_step s h0] at h
          have hne := lineL_ne s h0
          split at h
          · exact hne h
          · exact hne (List.append_eq_nil_iff.1 h).1
      obtain ⟨h, hh⟩ : ∃ h, h = (cutL s).1 := ⟨_, rfl⟩
      obtain ⟨b, hb⟩ : ∃ b, b = (cutL s).2 := ⟨_, rfl⟩
      rw [← hh, ← hb] at hflat hlen hbare hend
      rw [← hh] at hagain hnil ⊢
      rw [← hb]
      have gs : (B h).size + (B b).size ≤ 9223372036854775807 := by rw [bS, bS]; omega
      have ge : (B h ++ B b).toList = (B s).toList := by rw [bcat, hflat]
      simp only [if_pos gs, if_pos ge]
      have main0 : Ev (fun k => haversacklaw10_HeaderWhole.j0 k (B h) (B b) false) true := by
        refine Ev.go (fun k => by rw [haversacklaw10_HeaderWhole.j0, if_neg (by decide)]) ?_
        have hc := Cut_f_ev h (by omega)
        rw [hagain] at hc
        refine Ev.bd hc ?_
        simp only [if_true, btl]
        have hj := wj1 h b (by omega) hbare
        by_cases h0 : b = []
        · simp only [if_pos h0]
          exact hj
        · simp only [if_neg h0]
          have hl := hend h0
          rcases snoc_or h with h' | ⟨m, d, h'⟩
          · rw [h'] at hl; simp at hl
          · rw [h'] at hl
            simp only [List.getLast?_append, List.getLast?_singleton, Option.some_or, Option.some.injEq] at hl
            have hml : h.length = m.length + 1 := by rw [h']; simp
            have w1 : wrap64 (((B h).size : Int) - 1) = ((m.length : Nat) : Int) := by
              rw [bS, hml]
              have := w64 (x := ((m.length + 1 : Nat) : Int) - 1) (by omega)
              rw [this]; omega
            have hbt : bt (B h) ((m.length : Nat) : Int) = (10 : Int) := by
              rw [btn h _ (by omega)]
              simp [h', hl]
            have g0 : (0 : Int) ≤ ((m.length : Nat) : Int) := by omega
            have g1 : ((m.length : Nat) : Int) < ((B h).size : Int) := by rw [bS]; omega
            simp only [w1, if_pos g0, if_pos g1, hbt]
            exact hj
      by_cases h0 : h = []
      · have hs0 := hnil h0
        have hn : ((B s).toList != ([] : List UInt8)) = false := by rw [btl, hs0]; rfl
        simp only [btl, if_pos h0]
        rw [btl] at hn
        rw [hn]
        exact main0
      · simp only [btl, if_neg h0]
        exact main0
  obtain ⟨K, hK⟩ := main
  exact ⟨K, hK K (Nat.le_refl _)⟩
end Go.Proofs.YtkngjdhggcaonaaDoor.Pure
