/-
  header: the document's marks over lists.
-/
import Derived.Test.YtkngjdhggcaonaaDoorPPx28
import Derived.Test.YtkngjdhggcaonaaDoorMyHeadR
import Derived.Test.YtkngjdhggcaonaaDoorMyHeadT
namespace Go.Proofs.YtkngjdhggcaonaaDoor.Pure
open Go.RowKit Go.Proofs.YtkngjdhggcaonaaDoor.PP Go.Proofs.YtkngjdhggcaonaaDoor.My Go.Proofs.YtkngjdhggcaonaaDoorW.PrintWords Go.Proofs.YtkngjdhggcaonaaDoorW.PrintLast
set_option linter.unusedVariables false
set_option linter.unusedSimpArgs false
/-- A sum that does not wrap, hidden from omega. -/
structure Wr (a b : Int) : Prop where
  e : wrap64 a = b
abbrev mB (l : List Mk) : List S74 := l.map fun m => ⟨(m.1.toNat : Int), (m.2 : Int)⟩
theorem mB_push (l : List Mk) (c : UInt8) (n : Nat) (x : Int) (hx : x = (n : Int)) : mB l ++ [(⟨(c.toNat : Int), x⟩ : S74)] = mB (l ++ [(c, n)]) := by
  rw [hx]; simp [mB]
theorem bB_app (a b : List UInt8) : B a ++ B b = B (a ++ b) := by
  apply ByteArray.ext
  apply Array.ext'
  simp
section
variable (s : List UInt8) (hl : s.length ≤ 1000000000)
include hl
/-- The document's marks. -/
theorem marks_ev : ∀ (n i : Nat) (q a : Bool) (d : Nat) (out : List Mk), s.length - i ≤ n → i ≤ s.length + 1 → d ≤ i → out.length ≤ 2 * i →
    Ev (fun k => haversackref10_Marks.l0 k (B s) (mB out) q a (d : Int) (i : Int)) (mB (out ++ mkL (s.drop i) q a d)) := by
  intro n
  induction n using Nat.strongRecOn with
  | _ n ih =>
    intro i q a d out hn hi hd ho
    by_cases hp : i < s.length
    · obtain ⟨c, hc⟩ : ∃ c, c = s[i] := ⟨_, rfl⟩
      obtain ⟨r, hr⟩ : ∃ r, r = s.drop (i + 1) := ⟨_, rfl⟩
      have hdr : s.drop i = c :: r := by rw [hc, hr]; exact List.drop_eq_getElem_cons hp
      have hrl : r.length = s.length - (i + 1) := by rw [hr]; simp
      have g : (i : Int) < ((B s).size : Int) := by rw [bS]; omega
      have g0 : (0 : Int) ≤ (i : Int) := by omega
      have hb : bt (B s) (i : Int) = (c.toNat : Int) := by rw [btn s i hp, hc]
      have hlo : ∀ x : List Mk, x.length ≤ out.length + 1 → (mB x).length < 8796093022208 := by intro x hx; rw [List.length_map]; omega
      have hlo0 := hlo out (by omega)
      have one : ∀ (q' a' : Bool) (d' : Nat) (m : Nat), d' ≤ i + 1 → Ev (fun k => haversackref10_Marks.l0 k (B s) (mB (out ++ [(c, m)])) q' a' (d' : Int) ((i + 1 : Nat) : Int)) (mB (out ++ (c, m) :: mkL r q' a' d')) := by
        intro q' a' d' m h
        have := ih (s.length - (i + 1)) (by omega) (i + 1) q' a' d' (out ++ [(c, m)]) (Nat.le_refl _) (by omega) h (by rw [List.length_append]; simp only [List.length_cons, List.length_nil]; omega)
        rw [← hr, List.append_assoc, List.singleton_append] at this
        exact this
      have two : ∀ (m : Nat) (e : UInt8) (m2 : Nat), Ev (fun k => haversackref10_Marks.l0 k (B s) (mB (out ++ [(c, m)] ++ [(e, m2)])) q a (d : Int) ((i + 2 : Nat) : Int)) (mB (out ++ (c, m) :: (e, m2) :: mkL r.tail q a d)) := by
        intro m e m2
        have := ih (s.length - (i + 2)) (by omega) (i + 2) q a d (out ++ [(c, m)] ++ [(e, m2)]) (Nat.le_refl _) (by omega) (by omega) (by simp only [List.length_append, List.length_cons, List.length_nil]; omega)
        have ht : s.drop (i + 2) = r.tail := by rw [hr, List.tail_drop]
        rw [ht] at this
        simp only [List.append_assoc, List.singleton_append, List.cons_append, List.nil_append] at this ⊢
        exact this
      have w1 : Wr ((i : Int) + 1) ((i + 1 : Nat) : Int) := ⟨w64 (x := (i : Int) + 1) (by omega)⟩
      have w2 : Wr (((i + 1 : Nat) : Int) + 1) ((i + 2 : Nat) : Int) := ⟨w64 (x := ((i + 1 : Nat) : Int) + 1) (by omega)⟩
      have w3 : Wr ((d : Int) + 1) ((d + 1 : Nat) : Int) := ⟨w64 (x := (d : Int) + 1) (by omega)⟩
      have J0 : ∀ k, haversackref10_Marks.l0 (k + 1) (B s) (mB out) q a (d : Int) (i : Int) = haversackref10_Marks.j1 k (B s) (mB out) q a (d : Int) (i : Int) (decide (c = 92 ∧ r ≠ [])) (c.toNat : Int) 0 := by
        intro k
        have e1 : decide (((i + 1 : Nat) : Int) < ((B s).size : Int)) = decide (r ≠ []) := by
          rw [decide_eq_decide, bS]
          constructor
          · intro h h0; rw [h0] at hrl; simp at hrl; omega
          · intro h
            have : 0 < r.length := List.length_pos_iff.2 h
            omega
        rw [haversackref10_Marks.l0, if_pos g, if_pos g0, hb, w1.e, e1]
        simp only [u92]
        by_cases h92 : c = 92
        · rw [if_pos h92]
          congr 1
          simp [h92]
        · rw [if_neg h92]
          congr 1
          simp [h92]
      refine Ev.go J0 ?_
      rw [hdr, mkL]
      by_cases h0 : 0 < d
      · have gd : (d : Int) > 0 := by omega
        have w4 : Wr ((d : Int) - 1) ((d - 1 : Nat) : Int) := ⟨by
          rw [w64 (x := (d : Int) - 1) (by omega)]; omega⟩
        rw [if_pos h0]
        have J1 : ∀ k b, haversackref10_Marks.j1 (k + 1) (B s) (mB out) q a (d : Int) (i : Int) b (c.toNat : Int) 0 = (if c = 92 then haversackref10_Marks.l0 k (B s) (mB (out ++ [(c, 1)] ++ [(c, 1)])) q a (d : Int) ((i + 2 : Nat) : Int) else if c = 40 then haversackref10_Marks.l0 k (B s) (mB (out ++ [(c, 1)])) q a ((d + 1 : Nat) : Int) ((i + 1 : Nat) : Int) else if c = 41 then haversackref10_Marks.l0 k (B s) (mB (out ++ [(c, 1)])) q a ((d - 1 : Nat) : Int) ((i + 1 : Nat) : Int) else haversackref10_Marks.l0 k (B s) (mB (out ++ [(c, 1)])) q a (d : Int) ((i + 1 : Nat) : Int)) := by
          intro k b
          rw [haversackref10_Marks.j1, if_pos gd, if_pos g0, if_pos g, hb]
          simp only [u92, u40, u41, if_pos hlo0, Option.bind_some, mB_push out c 1 1 rfl, if_pos (hlo (out ++ [(c, 1)]) (by simp)), mB_push (out ++ [(c, 1)]) c 1 1 rfl, w1.e, w2.e, w3.e, w4.e]
        by_cases h92 : c = 92
        · rw [if_pos h92]
          exact Ev.go (fun k => by rw [J1, if_pos h92]) (two 1 c 1)
        · rw [if_neg h92]
          by_cases h40 : c = 40
          · rw [if_pos h40]
            exact Ev.go (fun k => by rw [J1, if_neg h92, if_pos h40]) (one q a (d + 1) 1 (by omega))
          · rw [if_neg h40]
            by_cases h41 : c = 41
            · rw [if_pos h41]
              exact Ev.go (fun k => by rw [J1, if_neg h92, if_neg h40, if_pos h41]) (one q a (d - 1) 1 (by omega))
            · rw [if_neg h41]
              exact Ev.go (fun k => by rw [J1, if_neg h92, if_neg h40, if_neg h41]) (one q a d 1 (by omega))
      · obtain rfl : d = 0 := by omega
        have gd : ¬ ((0 : Nat) : Int) > 0 := by decide
        rw [if_neg h0]
        have J1 : ∀ k, haversackref10_Marks.j1 (k + 1) (B s) (mB out) q a ((0 : Nat) : Int) (i : Int) (decide (c = 92 ∧ r ≠ [])) (c.toNat : Int) 0 = haversackref10_Marks.j2 k (B s) (mB out) q a ((0 : Nat) : Int) (i : Int) (decide (q = true ∧ c = 92 ∧ r ≠ [])) (c.toNat : Int) 0 := by
          intro k
          rw [haversackref10_Marks.j1, if_neg gd]
          cases q with
          | true => rw [if_pos rfl]; congr 1; simp
          | false => rw [if_neg (by decide)]; congr 1
        refine Ev.go J1 ?_
        by_cases hq : q = true ∧ c = 92 ∧ r ≠ []
        · rw [if_pos hq, decide_eq_true hq]
          obtain ⟨hq1, hq2, hq3⟩ := hq
          have hr1 : i + 1 < s.length := by
            have : 0 < r.length := List.length_pos_iff.2 hq3
            omega
          have hb2 : bt (B s) ((i + 1 : Nat) : Int) = ((r.headD 0).toNat : Int) := by
            rw [btn s (i + 1) hr1]
            have : r.headD 0 = s[i + 1] := by rw [hr, List.drop_eq_getElem_cons hr1]; rfl
            rw [this]
          have g2 : (0 : Int) ≤ ((i + 1 : Nat) : Int) := by omega
          have g3 : ((i + 1 : Nat) : Int) < ((B s).size : Int) := by rw [bS]; omega
          refine Ev.go (fun k => by
            rw [haversackref10_Marks.j2, if_pos rfl, if_pos g0, if_pos g, hb, w1.e, if_pos hlo0, Option.bind_some, mB_push out c 1 1 rfl, if_pos g2, if_pos g3, if_pos (hlo (out ++ [(c, 1)]) (by simp)), hb2, mB_push (out ++ [(c, 1)]) _ 0 0 rfl, w2.e]) ?_
          exact two 1 (r.headD 0) 0
        · rw [if_neg hq, decide_eq_false hq]
          have J2 : ∀ k, haversackref10_Marks.j2 (k + 1) (B s) (mB out) q a ((0 : Nat) : Int) (i : Int) false (c.toNat : Int) 0 = (if c = 34 then haversackref10_Marks.l0 k (B s) (mB (out ++ [(c, 1)])) (!q) a ((0 : Nat) : Int) ((i + 1 : Nat) : Int) else if q = true then haversackref10_Marks.l0 k (B s) (mB (out ++ [(c, 0)])) q a ((0 : Nat) : Int) ((i + 1 : Nat) : Int) else if c = 40 then haversackref10_Marks.l0 k (B s) (mB (out ++ [(c, 1)])) q a ((1 : Nat) : Int) ((i + 1 : Nat) : Int) else if c = 60 then haversackref10_Marks.j3 k (B s) (mB out) q a ((0 : Nat) : Int) (i : Int) (!a) (c.toNat : Int) 0 else haversackref10_Marks.j3 k (B s) (mB out) q a ((0 : Nat) : Int) (i : Int) false (c.toNat : Int) 0) := by
            intro k
            rw [haversackref10_Marks.j2, if_neg (by decide), if_pos g0, if_pos g, hb]
            simp only [u34, u40, u60, if_pos hlo0, mB_push out c 1 1 rfl, mB_push out c 0 0 rfl, w1.e]
            rfl
          by_cases h34 : c = 34
          · rw [if_pos h34]
            exact Ev.go (fun k => by rw [J2, if_pos h34]) (one (!q) a 0 1 (by omega))
          · rw [if_neg h34]
            by_cases hqt : q = true
            · rw [if_pos hqt]
              exact Ev.go (fun k => by rw [J2, if_neg h34, if_pos hqt]) (one q a 0 0 (by omega))
            · rw [if_neg hqt]
              by_cases h40 : c = 40
              · rw [if_pos h40]
                exact Ev.go (fun k => by rw [J2, if_neg h34, if_neg hqt, if_pos h40]) (one q a 1 1 (by omega))
              · rw [if_neg h40]
                have J2' : ∀ k, haversackref10_Marks.j2 (k + 1) (B s) (mB out) q a ((0 : Nat) : Int) (i : Int) false (c.toNat : Int) 0 = haversackref10_Marks.j3 k (B s) (mB out) q a ((0 : Nat) : Int) (i : Int) (decide (c = 60 ∧ a = false)) (c.toNat : Int) 0 := by
                  intro k
                  rw [J2, if_neg h34, if_neg hqt, if_neg h40]
                  by_cases h60 : c = 60
                  · rw [if_pos h60]
                    congr 1
                    cases a <;> simp [h60]
                  · rw [if_neg h60]
                    congr 1
                    simp [h60]
                refine Ev.go J2' ?_
                by_cases h60 : c = 60 ∧ a = false
                · rw [if_pos h60, decide_eq_true h60]
                  refine Ev.go (fun k => by rw [haversackref10_Marks.j3, if_pos rfl, if_pos hlo0, mB_push out c 2 2 rfl, w1.e]) ?_
                  exact one q true 0 2 (by omega)
                · rw [if_neg h60, decide_eq_false h60]
                  have J3 : ∀ k, haversackref10_Marks.j3 (k + 1) (B s) (mB out) q a ((0 : Nat) : Int) (i : Int) false (c.toNat : Int) 0 = haversackref10_Marks.j4 k (B s) (mB out) q a ((0 : Nat) : Int) (i : Int) (decide (c = 62 ∧ a = true)) (c.toNat : Int) 0 := by
                    intro k
                    rw [haversackref10_Marks.j3, if_neg (by decide), if_pos g0, if_pos g, hb]
                    simp only [u62]
                    by_cases h62 : c = 62
                    · rw [if_pos h62]
                      congr 1
                      cases a <;> simp [h62]
                    · rw [if_neg h62]
                      congr 1
                      simp [h62]
                  refine Ev.go J3 ?_
                  by_cases h62 : c = 62 ∧ a = true
                  · rw [if_pos h62, decide_eq_true h62]
                    refine Ev.go (fun k => by rw [haversackref10_Marks.j4, if_pos rfl, if_pos hlo0, mB_push out c 3 3 rfl, w1.e]) ?_
                    exact one q false 0 3 (by omega)
                  · rw [if_neg h62, decide_eq_false h62]
                    have J4 : ∀ k, haversackref10_Marks.j4 (k + 1) (B s) (mB out) q a ((0 : Nat) : Int) (i : Int) false (c.toNat : Int) 0 = (if c = 44 then (if a = true then haversackref10_Marks.l0 k (B s) (mB (out ++ [(c, 0)])) q a ((0 : Nat) : Int) ((i + 1 : Nat) : Int) else haversackref10_Marks.l0 k (B s) (mB (out ++ [(c, 4)])) q a ((0 : Nat) : Int) ((i + 1 : Nat) : Int)) else haversackref10_Marks.l0 k (B s) (mB (out ++ [(c, 0)])) q a ((0 : Nat) : Int) ((i + 1 : Nat) : Int)) := by
                      intro k
                      rw [haversackref10_Marks.j4, if_neg (by decide), if_pos g0, if_pos g, hb]
                      simp only [u44, if_pos hlo0, mB_push out c 4 4 rfl, mB_push out c 0 0 rfl, w1.e]
                    by_cases h44 : c = 44 ∧ a = false
                    · rw [if_pos h44]
                      exact Ev.go (fun k => by rw [J4, if_pos h44.1, if_neg (by rw [h44.2]; decide)]) (one q a 0 4 (by omega))
                    · rw [if_neg h44]
                      by_cases h44' : c = 44
                      · have ha : a = true := by
                          cases a with
                          | true => rfl
                          | false => exact absurd ⟨h44', rfl⟩ h44
                        exact Ev.go (fun k => by rw [J4, if_pos h44', if_pos ha]) (one q a 0 0 (by omega))
                      · exact Ev.go (fun k => by rw [J4, if_neg h44']) (one q a 0 0 (by omega))
    · have g : ¬ (i : Int) < ((B s).size : Int) := by rw [bS]; omega
      rw [List.drop_eq_nil_iff.2 (by omega), mk_nil, List.append_nil]
      exact Ev.now (fun k => by rw [haversackref10_Marks.l0, if_neg g])
end
theorem marks_f_ev (s : List UInt8) (hl : s.length ≤ 1000000000) : Ev (fun k => haversackref10_Marks.f k (B s)) (mB (mkL s false false 0)) :=
  marks_ev s hl s.length 0 false false 0 [] (by omega) (by omega) (by omega) (by simp)
end Go.Proofs.YtkngjdhggcaonaaDoor.Pure
