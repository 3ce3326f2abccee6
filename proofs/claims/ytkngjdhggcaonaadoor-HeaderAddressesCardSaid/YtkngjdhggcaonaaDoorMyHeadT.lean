/-
  header: the document's Trim over lists.
-/
import Derived.Test.YtkngjdhggcaonaaDoorPPx25
import Derived.Test.YtkngjdhggcaonaaDoorMyHeadA
namespace Go.Proofs.YtkngjdhggcaonaaDoor.Pure
open Go.RowKit Go.Proofs.YtkngjdhggcaonaaDoor.PP Go.Proofs.YtkngjdhggcaonaaDoor.My Go.Proofs.YtkngjdhggcaonaaDoorW.PrintWords Go.Proofs.YtkngjdhggcaonaaDoorW.PrintLast
set_option linter.unusedVariables false
set_option linter.unusedSimpArgs false
/-- A blank, or, with ends, a line end's byte. -/
def bkE (e : Bool) (c : UInt8) : Bool := c == 32 || (c == 9 || (e && (c == 10 || c == 13)))
def trR (f : UInt8 → Bool) (l : List UInt8) : List UInt8 := (l.reverse.dropWhile f).reverse
def trimE (e : Bool) (l : List UInt8) : List UInt8 := trR (bkE e) (l.dropWhile (bkE e))
theorem trR_snoc (f : UInt8 → Bool) (m : List UInt8) (d : UInt8) : trR f (m ++ [d]) = if f d = true then trR f m else m ++ [d] := by
  unfold trR
  rw [List.reverse_append, List.reverse_singleton, List.singleton_append, List.dropWhile_cons]
  split
  · rfl
  · simp
theorem trR_cons (f : UInt8 → Bool) (c : UInt8) (r : List UInt8) : trR f (c :: r) = if trR f r = [] ∧ f c = true then [] else c :: trR f r := by
  unfold trR
  rw [List.reverse_cons, List.dropWhile_append]
  cases h : List.dropWhile f r.reverse with
  | nil =>
    simp only [List.isEmpty_nil, if_true, List.reverse_nil, true_and]
    by_cases hc : f c = true
    · simp [hc]
    · simp [hc]
  | cons a b => simp
theorem tr_comm (f : UInt8 → Bool) : ∀ l, trR f (l.dropWhile f) = (trR f l).dropWhile f
  | [] => rfl
  | c :: r => by
    rw [trR_cons, List.dropWhile_cons]
    by_cases hc : f c = true
    · rw [if_pos hc, tr_comm f r]
      by_cases h0 : trR f r = []
      · rw [if_pos ⟨h0, hc⟩, h0]
      · rw [if_neg (fun h => h0 h.1), List.dropWhile_cons, if_pos hc]
    · rw [if_neg hc, if_neg (fun h => hc h.2), List.dropWhile_cons, if_neg hc, trR_cons, if_neg (fun h => hc h.2)]
theorem trim_lib (e : Bool) (cs : List UInt8) (h : ∀ c, cs.contains c = bkE e c) (l : List UInt8) : Lib.trimS l cs = trimE e l := by
  unfold trimE
  rw [tr_comm]
  unfold Lib.trimS Lib.trimLeftS Lib.trimRightS trR
  have : (fun x => cs.contains x) = bkE e := funext h
  rw [this]
theorem takeL_trim (l : List UInt8) : takeL l = trimE true l := by
  refine trim_lib true _ (fun c => ?_) l
  unfold bkE
  simp only [List.contains_cons, List.contains_nil, Bool.or_false, Bool.true_and]
  cases (c == 9) <;> cases (c == 10) <;> cases (c == 13) <;> cases (c == 32) <;> rfl
theorem bl_yes {e : Bool} {c : UInt8} (h : c = 32 ∨ c = 9 ∨ (e = true ∧ (c = 10 ∨ c = 13))) : bkE e c = true := by
  unfold bkE
  rcases h with h | h | ⟨h1, h | h⟩ <;> simp [*]
theorem bl_no {e : Bool} {c : UInt8} (h : ¬ c = 32) (h2 : ¬ c = 9) (h3 : e = true → ¬ c = 10 ∧ ¬ c = 13) : bkE e c = false := by
  unfold bkE
  cases e with
  | false => simp [*]
  | true => simp [*]
theorem snoc_o (l : List UInt8) : l = [] ∨ ∃ m d, l = m ++ [d] := by
  rcases List.eq_nil_or_concat l with h | ⟨m, d, h⟩
  · exact .inl h
  · exact .inr ⟨m, d, by simpa using h⟩
theorem trim_r (e : Bool) : ∀ (n : Nat) (l : List UInt8), l.length ≤ n → l.length ≤ 1000000000 → Ev (fun k => haversackref10_Trim.l1 k (B l) e) (B (trR (bkE e) l)) := by
  intro n
  induction n with
  | zero =>
    intro l h1 h2
    obtain rfl : l = [] := List.length_eq_zero_iff.1 (by omega)
    exact Ev.now (fun k => by rw [haversackref10_Trim.l1, if_neg (by decide)]; rfl)
  | succ n ih =>
    intro l h1 h2
    rcases snoc_o l with rfl | ⟨m, d, rfl⟩
    · exact Ev.now (fun k => by rw [haversackref10_Trim.l1, if_neg (by decide)]; rfl)
    · have hlen : (m ++ [d]).length = m.length + 1 := by simp
      have w1 : wrap64 (((B (m ++ [d])).size : Int) - 1) = ((m.length : Nat) : Int) := by
        rw [bS, hlen]
        have := w64 (x := ((m.length + 1 : Nat) : Int) - 1) (by omega)
        rw [this]; omega
      have gp : ((B (m ++ [d])).size : Int) > 0 := by rw [bS, hlen]; omega
      have g0 : (0 : Int) ≤ ((m.length : Nat) : Int) := by omega
      have g1 : ((m.length : Nat) : Int) < ((B (m ++ [d])).size : Int) := by rw [bS, hlen]; omega
      have hb : bt (B (m ++ [d])) ((m.length : Nat) : Int) = (d.toNat : Int) := by
        rw [btn _ _ (by omega)]
        simp
      have hx : (B (m ++ [d])).extract 0 m.length = B m := by
        show ByteArray.extract ⟨(m ++ [d]).toArray⟩ 0 m.length = _
        rw [ba_extract]; simp
      have step : ∀ k, haversackref10_Trim.l1 (k + 1) (B (m ++ [d])) e = (if d = 32 then haversackref10_Trim.l1 k (B m) e else if d = 9 then haversackref10_Trim.l1 k (B m) e else if e = true then (if d = 10 then haversackref10_Trim.l1 k (B m) e else if d = 13 then haversackref10_Trim.l1 k (B m) e else some (B (m ++ [d]))) else some (B (m ++ [d]))) := by
        intro k
        rw [haversackref10_Trim.l1, if_pos gp, w1, if_pos g0, if_pos g1, hb]
        simp only [if_pos (Int.le_of_lt g1), Int.toNat_natCast, hx, u32, u9, u10, u13]
      rw [trR_snoc]
      have next := ih m (by omega) (by omega)
      by_cases h32 : d = 32
      · rw [if_pos (bl_yes (.inl h32))]
        exact Ev.go (fun k => by rw [step, if_pos h32]) next
      · by_cases h9 : d = 9
        · rw [if_pos (bl_yes (.inr (.inl h9)))]
          exact Ev.go (fun k => by rw [step, if_neg h32, if_pos h9]) next
        · by_cases he : e = true
          · by_cases h10 : d = 10
            · rw [if_pos (bl_yes (.inr (.inr ⟨he, .inl h10⟩)))]
              exact Ev.go (fun k => by rw [step, if_neg h32, if_neg h9, if_pos he, if_pos h10]) next
            · by_cases h13 : d = 13
              · rw [if_pos (bl_yes (.inr (.inr ⟨he, .inr h13⟩)))]
                exact Ev.go (fun k => by rw [step, if_neg h32, if_neg h9, if_pos he, if_neg h10, if_pos h13]) next
              · rw [if_neg (by rw [bl_no h32 h9 (fun _ => ⟨h10, h13⟩)]; simp)]
                exact Ev.now (fun k => by rw [step, if_neg h32, if_neg h9, if_pos he, if_neg h10, if_neg h13])
          · rw [if_neg (by rw [bl_no h32 h9 (fun h => absurd h he)]; simp)]
            exact Ev.now (fun k => by rw [step, if_neg h32, if_neg h9, if_neg he])
theorem trim_ev (e : Bool) : ∀ (l : List UInt8), l.length ≤ 1000000000 → Ev (fun k => haversackref10_Trim.f k (B l) e) (B (trimE e l))
  | [], _ => Ev.go (f := fun k => haversackref10_Trim.j1 k (B []) e) (fun k => by rw [haversackref10_Trim.f, haversackref10_Trim.l0, if_neg (by decide)]) (Ev.go (fun k => by rw [haversackref10_Trim.j1]) (trim_r e 0 [] (Nat.le_refl _) (by simp)))
  | c :: r, h => by
    simp only [List.length_cons] at h
    have next := trim_ev e r (by omega)
    have gp : ((B (c :: r)).size : Int) > 0 := by rw [bS]; simp only [List.length_cons]; omega
    have g0 : (0 : Int) < ((B (c :: r)).size : Int) := gp
    have g1 : (1 : Int) ≤ ((B (c :: r)).size : Int) := by omega
    have hb : bt (B (c :: r)) 0 = (c.toNat : Int) := btn (c :: r) 0 (by simp)
    have hx : (B (c :: r)).extract 1 (B (c :: r)).size = B r := by
      rw [bS]
      exact ba_drop (c :: r) 1
    have step : ∀ k, haversackref10_Trim.f (k + 1) (B (c :: r)) e = (if c = 32 then haversackref10_Trim.f k (B r) e else if c = 9 then haversackref10_Trim.f k (B r) e else if e = true then (if c = 10 then haversackref10_Trim.f k (B r) e else if c = 13 then haversackref10_Trim.f k (B r) e else haversackref10_Trim.j1 k (B (c :: r)) e) else haversackref10_Trim.j1 k (B (c :: r)) e) := by
      intro k
      rw [haversackref10_Trim.f, haversackref10_Trim.l0, if_pos gp, if_pos g0, hb]
      simp only [if_pos g1, hx, u32, u9, u10, u13]
      rfl
    have stop : bkE e c = false → Ev (fun k => haversackref10_Trim.j1 k (B (c :: r)) e) (B (trimE e (c :: r))) := by
      intro hc
      unfold trimE
      rw [List.dropWhile_cons, if_neg (by rw [hc]; simp)]
      exact Ev.go (fun k => by rw [haversackref10_Trim.j1]) (trim_r e _ (c :: r) (Nat.le_refl _) (by simpa using h))
    have go : bkE e c = true → trimE e (c :: r) = trimE e r := by
      intro hc
      unfold trimE
      rw [List.dropWhile_cons, if_pos hc]
    by_cases h32 : c = 32
    · rw [go (bl_yes (.inl h32))]
      exact Ev.go (fun k => by rw [step, if_pos h32]) next
    · by_cases h9 : c = 9
      · rw [go (bl_yes (.inr (.inl h9)))]
        exact Ev.go (fun k => by rw [step, if_neg h32, if_pos h9]) next
      · by_cases he : e = true
        · by_cases h10 : c = 10
          · rw [go (bl_yes (.inr (.inr ⟨he, .inl h10⟩)))]
            exact Ev.go (fun k => by rw [step, if_neg h32, if_neg h9, if_pos he, if_pos h10]) next
          · by_cases h13 : c = 13
            · rw [go (bl_yes (.inr (.inr ⟨he, .inr h13⟩)))]
              exact Ev.go (fun k => by rw [step, if_neg h32, if_neg h9, if_pos he, if_neg h10, if_pos h13]) next
            · exact Ev.go (fun k => by rw [step, if_neg h32, if_neg h9, if_pos he, if_neg h10, if_neg h13]) (stop (bl_no h32 h9 (fun _ => ⟨h10, h13⟩)))
        · exact Ev.go (fun k => by rw [step, if_neg h32, if_neg h9, if_neg he]) (stop (bl_no h32 h9 (fun h => absurd h he)))
theorem trimE_len (e : Bool) (l : List UInt8) : (trimE e l).length ≤ l.length := by
  unfold trimE trR
  rw [List.length_reverse]
  refine Nat.le_trans (List.Sublist.length_le (List.dropWhile_sublist _)) ?_
  rw [List.length_reverse]
  exact List.Sublist.length_le (List.dropWhile_sublist _)
end Go.Proofs.YtkngjdhggcaonaaDoor.Pure
