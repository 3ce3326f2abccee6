/-
  NamesStars.
-/
import Derived.Test.YtnkibbfpmhgeaaaDoorPPx11
import Derived.Test.YtnkibbfpmhgeaaaDoorMyNamesM
namespace Go.Proofs.YtnkibbfpmhgeaaaDoor.Pure
open Go.RowKit Go.Proofs.YtnkibbfpmhgeaaaDoor.PP Go.Proofs.YtnkibbfpmhgeaaaDoor.My Go.Proofs.YtnkibbfpmhgeaaaDoorW.PrintWords Go.Proofs.YtnkibbfpmhgeaaaDoorW.PrintLast
set_option linter.unusedVariables false
set_option linter.unusedSimpArgs false
theorem alive_ev : Ev haversacklaw07_alive.f true := ⟨60, fun k hk => alive_k hk⟩
theorem Ev.bd {α β : Type} {g : Nat → Option α} {f : Nat → α → Option β} {a : α} {r : β} (h : Ev g a) (k : Ev (fun n => f n a) r) : Ev (fun n => (g n).bind (f n)) r := by
  obtain ⟨K, hK⟩ := h
  obtain ⟨M, hM⟩ := k
  refine ⟨K + M, fun n hn => ?_⟩
  simp only [hK n (by omega), Option.bind_some]
  exact hM n (by omega)
theorem Ev.ret {α : Type} (r : α) : Ev (fun _ => some r) r := ⟨0, fun _ _ => rfl⟩
theorem Ev.go {α : Type} {g f : Nat → Option α} {r : α} (h : ∀ k, g (k + 1) = f k) (k : Ev f r) : Ev g r := Ev.next h k
theorem starF_iff (n : List UInt8) (c : UInt8) (f : Nat → Bool) (k : Nat) : starF n c f k = true ↔ ∃ j, j ≤ k ∧ f j = true ∧ ∀ t, j ≤ t → t < k → over n c t = true := by
  induction k with
  | zero =>
    constructor
    · intro h; exact ⟨0, Nat.le_refl _, h, fun t h1 h2 => by omega⟩
    · rintro ⟨j, h1, h2, _⟩
      obtain rfl : j = 0 := by omega
      exact h2
  | succ k ih =>
    show (f (k + 1) || (over n c k && starF n c f k)) = true ↔ _
    rw [Bool.or_eq_true, Bool.and_eq_true, ih]
    constructor
    · rintro (h | ⟨h1, j, h2, h3, h4⟩)
      · exact ⟨k + 1, Nat.le_refl _, h, fun t h1 h2 => by omega⟩
      · refine ⟨j, by omega, h3, fun t h5 h6 => ?_⟩
        by_cases e : t = k
        · subst e; exact h1
        · exact h4 t h5 (by omega)
    · rintro ⟨j, h1, h2, h3⟩
      by_cases e : j = k + 1
      · subst e; exact Or.inl h2
      · exact Or.inr ⟨h3 k (by omega) (by omega), j, by omega, h2, fun t h5 h6 => h3 t h5 (by omega)⟩
theorem starF_comp (n : List UInt8) (c d : UInt8) (f : Nat → Bool) (h : ∀ t, over n c t = true → over n d t = true) : starF n d (starF n c f) = starF n d f := by
  funext k
  rw [Bool.eq_iff_iff, starF_iff, starF_iff]
  constructor
  · rintro ⟨j, h1, h2, h3⟩
    obtain ⟨i, h4, h5, h6⟩ := (starF_iff n c f j).1 h2
    refine ⟨i, by omega, h5, fun t h7 h8 => ?_⟩
    by_cases e : t < j
    · exact h t (h6 t h7 e)
    · exact h3 t (by omega) h8
  · rintro ⟨j, h1, h2, h3⟩
    exact ⟨j, h1, (starF_iff n c f j).2 ⟨j, Nat.le_refl _, h2, fun t h4 h5 => by omega⟩, h3⟩
theorem over42 (n : List UInt8) (t : Nat) : over n 42 t = true := rfl
theorem row_app (n p q : List UInt8) (f : Nat → Bool) : rowF n (p ++ q) f = rowF n q (rowF n p f) := by unfold rowF; rw [List.foldl_append]
theorem row_star (n : List UInt8) (f : Nat → Bool) : rowF n [42] f = starF n 42 f := rfl
theorem row_pct (n : List UInt8) (f : Nat → Bool) : rowF n [37] f = starF n 37 f := rfl
theorem row_ss (n : List UInt8) (f : Nat → Bool) : rowF n [42, 42] f = starF n 42 f := by
  show starF n 42 (starF n 42 f) = _
  exact starF_comp n 42 42 f (fun t _ => rfl)
theorem row_ps (n : List UInt8) (f : Nat → Bool) : rowF n [37, 42] f = starF n 42 f := by
  show starF n 42 (starF n 37 f) = _
  exact starF_comp n 37 42 f (fun t _ => rfl)
theorem row_pp (n : List UInt8) (f : Nat → Bool) : rowF n [37, 37] f = starF n 37 f := by
  show starF n 37 (starF n 37 f) = _
  exact starF_comp n 37 37 f (fun t h => h)
theorem step_loc (a b : List UInt8) (c : UInt8) (f g : Nat → Bool) (h : ∀ k, k ≤ a.length → f k = g k) : ∀ k, k ≤ a.length → step (a ++ b) f c k = step a g c k := by
  intro k hk
  unfold step
  split
  · induction k with
    | zero => exact h 0 hk
    | succ k ih =>
      show (f (k + 1) || (over (a ++ b) c k && starF (a ++ b) c f k)) = (g (k + 1) || (over a c k && starF a c g k))
      rw [ih (by omega), h _ hk]
      have : over (a ++ b) c k = over a c k := by
        unfold over
        rw [List.getD_eq_getElem?_getD, List.getElem?_append_left (by omega), ← List.getD_eq_getElem?_getD]
      rw [this]
  · cases k with
    | zero => rfl
    | succ k =>
      show (f k && (a ++ b).getD k 0 == c) = (g k && a.getD k 0 == c)
      rw [h k (by omega), List.getD_eq_getElem?_getD, List.getElem?_append_left (by omega), ← List.getD_eq_getElem?_getD]
theorem row_loc (a b : List UInt8) (p : List UInt8) : ∀ f g : Nat → Bool, (∀ k, k ≤ a.length → f k = g k) → ∀ k, k ≤ a.length → rowF (a ++ b) p f k = rowF a p g k := by
  induction p with
  | nil => intro f g h; exact h
  | cons c p ih => intro f g h; exact ih _ _ (step_loc a b c f g h)
theorem step_shift (a b : List UInt8) (c : UInt8) (f g : Nat → Bool) (h : ∀ k, g k = true → f (a.length + k) = true) : ∀ k, step b g c k = true → step (a ++ b) f c (a.length + k) = true := by
  intro k
  have hg : ∀ t, (a ++ b).getD (a.length + t) 0 = b.getD t 0 := by
    intro t
    rw [List.getD_eq_getElem?_getD, List.getElem?_append_right (by omega), Nat.add_sub_cancel_left, ← List.getD_eq_getElem?_getD]
  unfold step
  split
  · intro hk
    obtain ⟨j, h1, h2, h3⟩ := (starF_iff _ _ _ _).1 hk
    refine (starF_iff _ _ _ _).2 ⟨a.length + j, by omega, h j h2, fun t h4 h5 => ?_⟩
    have := h3 (t - a.length) (by omega) (by omega)
    unfold over at this ⊢
    rw [← hg, show a.length + (t - a.length) = t by omega] at this
    exact this
  · cases k with
    | zero => intro hk; cases hk
    | succ k =>
      show (g k && b.getD k 0 == c) = true → (f (a.length + k) && (a ++ b).getD (a.length + k) 0 == c) = true
      rw [hg, Bool.and_eq_true, Bool.and_eq_true]
      exact fun ⟨x, y⟩ => ⟨h k x, y⟩
theorem row_shift (a b : List UInt8) (p : List UInt8) : ∀ f g : Nat → Bool, (∀ k, g k = true → f (a.length + k) = true) → ∀ k, rowF b p g k = true → rowF (a ++ b) p f (a.length + k) = true := by
  induction p with
  | nil => intro f g h; exact h
  | cons c p ih => intro f g h; exact ih _ _ (step_shift a b c f g h)
theorem match_app (p q a b : List UInt8) (h1 : matchB p a = true) (h2 : matchB q b = true) : matchB (p ++ q) (a ++ b) = true := by
  unfold matchB at *
  rw [row_app, List.length_append]
  refine row_shift a b q _ f0 ?_ _ h2
  intro k hk
  obtain rfl : k = 0 := by simpa [f0] using hk
  rw [Nat.add_zero, row_loc a b p f0 f0 (fun _ _ => rfl) _ (Nat.le_refl _)]
  exact h1
def starry (c : UInt8) : Bool := c == 42 || c == 37
theorem row_lit (n : List UInt8) (p : List UInt8) : p.any starry = false → ∀ m k : Nat, m + k + p.length ≤ n.length → ∀ f : Nat → Bool, (∀ j, j ≤ n.length → f j = decide (j = m)) → ∀ j, j ≤ n.length → rowF n p f j = decide (j = m + p.length ∧ p = (n.drop m).take p.length) := by
  induction p with
  | nil =>
    intro _ m k hm f hf j hj
    show f j = _
    rw [hf j hj]; simp
  | cons c p ih =>
    intro hp m k hm f hf j hj
    rw [List.any_cons, Bool.or_eq_false_iff] at hp
    rw [List.length_cons] at hm
    have hst : step n f c = litF n c f := if_neg (by rw [show (c == 42 || c == 37) = false from hp.1]; decide)
    have hml : m < n.length := by omega
    show rowF n p (step n f c) j = _
    rw [hst]
    have hg : n.getD m 0 = n[m] := by rw [List.getD_eq_getElem?_getD, List.getElem?_eq_getElem hml]; rfl
    have hd : (n.drop m).take (p.length + 1) = n[m] :: (n.drop (m + 1)).take p.length := by rw [List.drop_eq_getElem_cons hml, List.take_succ_cons]
    by_cases e : n[m] = c
    · have := ih hp.2 (m + 1) 0 (by omega) (litF n c f) ?_ j hj
      · rw [this, List.length_cons, hd, e]
        simp only [List.cons.injEq, true_and]
        rw [show m + 1 + p.length = m + (p.length + 1) by omega]
      · intro i hi
        cases i with
        | zero => simp [litF]
        | succ i =>
          show (f i && n.getD i 0 == c) = _
          rw [hf i (by omega)]
          by_cases e2 : i = m
          · subst e2; rw [hg, e]; simp
          · simp [e2]
    · have hz : ∀ (p : List UInt8), p.any starry = false → ∀ g : Nat → Bool, (∀ i, i ≤ n.length → g i = false) → ∀ i, i ≤ n.length → rowF n p g i = false := by
        intro p
        induction p with
        | nil => intro _ g hg; exact hg
        | cons d p ih2 =>
          intro hp g hg
          rw [List.any_cons, Bool.or_eq_false_iff] at hp
          have hst2 : step n g d = litF n d g := if_neg (by rw [show (d == 42 || d == 37) = false from hp.1]; decide)
          show ∀ i, i ≤ n.length → rowF n p (step n g d) i = false
          rw [hst2]
          apply ih2 hp.2
          intro i hi
          cases i with
          | zero => rfl
          | succ i =>
            show (g i && n.getD i 0 == d) = false
            rw [hg i (by omega)]; rfl
      rw [hz p hp.2 _ ?_ j hj, List.length_cons, hd]
      · symm
        rw [decide_eq_false_iff_not]
        rintro ⟨_, h⟩
        exact e (List.cons.inj h).1.symm
      · intro i hi
        cases i with
        | zero => rfl
        | succ i =>
          show (f i && n.getD i 0 == c) = false
          rw [hf i (by omega)]
          by_cases e2 : i = m
          · subst e2; rw [hg]; simp [e]
          · simp [e2]
theorem row_long (n : List UInt8) (p : List UInt8) : p.any starry = false → ∀ m : Nat, ∀ f : Nat → Bool, (∀ j, f j = true → m ≤ j) → ∀ j, rowF n p f j = true → m + p.length ≤ j := by
  induction p with
  | nil => intro _ m f hf; exact hf
  | cons c p ih =>
    intro hp m f hf j hj
    rw [List.any_cons, Bool.or_eq_false_iff] at hp
    have hst : step n f c = litF n c f := if_neg (by rw [show (c == 42 || c == 37) = false from hp.1]; decide)
    change rowF n p (step n f c) j = true at hj
    rw [hst] at hj
    have := ih hp.2 (m + 1) (litF n c f) ?_ j hj
    · rw [List.length_cons]; omega
    · intro i hi
      cases i with
      | zero => cases hi
      | succ i =>
        change (f i && n.getD i 0 == c) = true at hi
        rw [Bool.and_eq_true] at hi
        have := hf i hi.1
        omega
theorem match_lit (a b : List UInt8) (h : a.any starry = false) : matchB a b = (a == b) := by
  unfold matchB
  rw [Bool.eq_iff_iff, beq_iff_eq]
  by_cases hl : a.length ≤ b.length
  · rw [row_lit b a h 0 0 (by omega) f0 (fun j _ => by unfold f0; rw [Bool.eq_iff_iff]; simp) _ (Nat.le_refl _)]
    rw [decide_eq_true_iff, List.drop_zero]
    constructor
    · rintro ⟨h1, h2⟩
      rw [List.take_of_length_le (by omega)] at h2
      exact h2
    · rintro rfl
      exact ⟨by omega, by rw [List.take_of_length_le (Nat.le_refl _)]⟩
  · constructor
    · intro hj
      have := row_long b a h 0 f0 (fun j hj => Nat.zero_le _) _ hj
      omega
    · rintro rfl; omega
theorem match_star (a : List UInt8) : matchB [42] a = true := by
  unfold matchB
  rw [row_star]
  exact (starF_iff _ _ _ _).2 ⟨0, Nat.zero_le _, rfl, fun t _ _ => rfl⟩
theorem match_pct (a : List UInt8) : matchB [37] a = !a.any (fun c => c == 47) := by
  unfold matchB
  rw [row_pct, Bool.eq_iff_iff, starF_iff, Bool.not_eq_true', ← Bool.not_eq_true, List.any_eq_true]
  constructor
  · rintro ⟨j, h1, h2, h3⟩ ⟨c, hc, h4⟩
    obtain rfl : j = 0 := by simpa [f0] using h2
    obtain ⟨i, hi, rfl⟩ := List.getElem_of_mem hc
    have := h3 i (Nat.zero_le _) hi
    unfold over at this
    rw [List.getD_eq_getElem?_getD, List.getElem?_eq_getElem hi] at this
    have e : a[i] = 47 := by simpa using h4
    simp [e] at this
  · intro h
    refine ⟨0, Nat.zero_le _, rfl, fun t _ ht => ?_⟩
    unfold over
    rw [List.getD_eq_getElem?_getD, List.getElem?_eq_getElem ht]
    have : ¬ a[t] = 47 := fun e => h ⟨a[t], List.getElem_mem ht, by rw [e]; rfl⟩
    simp [this]
theorem match_more (p a : List UInt8) (h : matchB p a = true) : matchB (p ++ [42]) a = true := by
  unfold matchB at *
  rw [row_app, row_star]
  exact (starF_iff _ _ _ _).2 ⟨_, Nat.le_refl _, h, fun t h1 h2 => by omega⟩
theorem match_same (p q a u v : List UInt8) (h : ∀ f, rowF a u f = rowF a v f) : matchB ((p ++ u) ++ q) a = matchB ((p ++ v) ++ q) a := by
  unfold matchB
  rw [row_app, row_app, row_app, row_app, h]
set_option maxHeartbeats 1000000 in
theorem stars_law (p q a b : List UInt8) (hp : p.length ≤ 300) (hq : q.length ≤ 300) (ha : a.length ≤ 300) (hb : b.length ≤ 300) :
    Ev (fun k => haversacklaw07_NamesStars.j0 k ⟨p.toArray⟩ ⟨q.toArray⟩ ⟨a.toArray⟩ ⟨b.toArray⟩ false) true := by
  have c1 : (⟨#[42]⟩ : ByteArray) = ⟨[42].toArray⟩ := rfl
  have c2 : (⟨#[37]⟩ : ByteArray) = ⟨[37].toArray⟩ := rfl
  have c3 : (⟨#[42, 42]⟩ : ByteArray) = ⟨[42, 42].toArray⟩ := rfl
  have c4 : (⟨#[37, 42]⟩ : ByteArray) = ⟨[37, 42].toArray⟩ := rfl
  have c5 : (⟨#[37, 37]⟩ : ByteArray) = ⟨[37, 37].toArray⟩ := rfl
  have j4 : Ev (fun k => haversacklaw07_NamesStars.j4 k ⟨p.toArray⟩ ⟨q.toArray⟩ ⟨a.toArray⟩ false) true := by
    apply Ev.go
    · intro k; rw [haversacklaw07_NamesStars.j4, if_neg (by decide), ba_size, ba_size, if_pos (by omega), if_pos (by omega), c1, c2, c3, c4, c5, ba_app, ba_app, ba_app, ba_app, ba_app, ba_app, ba_app, ba_app, ba_app, ba_app]
    · have M : ∀ u : List UInt8, u.length ≤ 2 → Ev (fun k => names_Match.f k ⟨((p ++ u) ++ q).toArray⟩ ⟨a.toArray⟩) (matchB ((p ++ u) ++ q) a) := fun u hu => match_f _ _ (by simp; omega) (by omega)
      have s1 := match_same p q a [42, 42] [42] (fun f => by rw [row_ss, row_star])
      have s2 := match_same p q a [37, 42] [42] (fun f => by rw [row_ps, row_star])
      have s3 := match_same p q a [37, 37] [37] (fun f => by rw [row_pp, row_pct])
      refine Ev.bd (M [42, 42] (by decide)) ?_
      simp only [if_pos (show p.length + 1 ≤ 9223372036854775807 by omega), if_pos (show p.length + 1 + q.length ≤ 9223372036854775807 by omega)]
      refine Ev.bd (M [42] (by decide)) ?_
      simp only [s1, beq_self_eq_true, if_true]
      refine Ev.bd (M [37, 42] (by decide)) (Ev.bd (M [42] (by decide)) ?_)
      simp only [s2, beq_self_eq_true, if_true]
      refine Ev.bd (M [37, 37] (by decide)) (Ev.bd (M [37] (by decide)) ?_)
      simp only [s3, beq_self_eq_true, if_true]
      exact Ev.bd alive_ev (Ev.ret _)
  have j3 : ∀ sl, sl = a.any (fun c => c == 47) → Ev (fun k => haversacklaw07_NamesStars.j3 k ⟨p.toArray⟩ ⟨q.toArray⟩ ⟨a.toArray⟩ sl false) true := by
    intro sl hsl
    apply Ev.go
    · intro k; rw [haversacklaw07_NamesStars.j3, if_neg (by decide), c1, c2, ba_app, ba_size]
    · refine Ev.bd (match_f [42] a (by decide) (by omega)) ?_
      simp only [match_star, if_true]
      refine Ev.bd (match_f [37] a (by decide) (by omega)) ?_
      simp only [match_pct, hsl, bne_self_eq_false, Bool.false_eq_true, if_false, if_pos (show p.length + 1 ≤ 9223372036854775807 by omega)]
      refine Ev.bd (match_f (p ++ [42]) a (by simp; omega) (by omega)) ?_
      by_cases h : matchB (p ++ [42]) a = true
      · simp only [h, if_true]; exact j4
      · simp only [h, if_false]
        refine Ev.bd (match_f p a (by omega) (by omega)) ?_
        have : matchB p a = false := by
          cases e : matchB p a
          · rfl
          · exact absurd (match_more p a e) h
        rw [this]; exact j4
  have j2 : ∀ sl, sl = a.any (fun c => c == 47) → Ev (fun k => haversacklaw07_NamesStars.j2 k ⟨p.toArray⟩ ⟨q.toArray⟩ ⟨a.toArray⟩ ⟨b.toArray⟩ sl false) true := by
    intro sl hsl
    apply Ev.go
    · intro k; rw [haversacklaw07_NamesStars.j2, if_neg (by decide), ba_app, ba_app, ba_size, ba_size, ba_size, ba_size]
    · refine Ev.bd (match_f p a (by omega) (by omega)) ?_
      by_cases h1 : matchB p a = true
      · simp only [h1, if_true]
        refine Ev.bd (match_f q b (by omega) (by omega)) ?_
        by_cases h2 : matchB q b = true
        · simp only [h2, if_true, if_pos (show p.length + q.length ≤ 9223372036854775807 by omega), if_pos (show a.length + b.length ≤ 9223372036854775807 by omega)]
          refine Ev.bd (match_f (p ++ q) (a ++ b) (by simp; omega) (by simp; omega)) ?_
          simp only [match_app p q a b h1 h2, Bool.not_true]
          exact j3 sl hsl
        · simp only [h2]; exact j3 sl hsl
      · simp only [h1]; exact j3 sl hsl
  have l0 : ∀ d i : Nat, i + d = a.length → ∀ st sl : Bool, st = (a.take i).any starry → sl = (a.take i).any (fun c => c == 47) →
      Ev (fun k => haversacklaw07_NamesStars.l0 k ⟨p.toArray⟩ ⟨q.toArray⟩ ⟨a.toArray⟩ ⟨b.toArray⟩ st sl (a.length : Int) (i : Int)) true := by
    intro d
    induction d with
    | zero =>
      intro i hi st sl hst hsl
      rw [List.take_of_length_le (by omega)] at hst hsl
      cases st with
      | true => refine Ev.go (fun k => ?_) (j2 sl hsl); rw [haversacklaw07_NamesStars.l0, if_neg (by omega), if_pos rfl]
      | false =>
        apply Ev.go
        · intro k; rw [haversacklaw07_NamesStars.l0, if_neg (by omega), if_neg (by decide), ba_toList, ba_toList]
        · refine Ev.bd (match_f a b (by omega) (by omega)) ?_
          rw [match_lit a b hst.symm, bne_self_eq_false]
          exact j2 sl hsl
    | succ d ih =>
      intro i hi st sl hst hsl
      have hil : i < a.length := by omega
      have hw : wrap64 ((i : Int) + 1) = ((i + 1 : Nat) : Int) := by rw [w64 (by omega)]; omega
      have hts : ∀ f : UInt8 → Bool, (a.take (i + 1)).any f = ((a.take i).any f || f a[i]) := by
        intro f
        rw [List.take_succ_eq_append_getElem hil, List.any_append]; simp
      have hg : a.getD i 0 = a[i] := by rw [List.getD_eq_getElem?_getD, List.getElem?_eq_getElem hil]; rfl
      have ub : ∀ c d : UInt8, ((c.toNat : Int) == (d.toNat : Int)) = (c == d) := fun c d => by
        rw [Bool.eq_iff_iff, beq_iff_eq, beq_iff_eq]; exact Eq.to_iff (u8i c d)
      have h47 : ((a[i].toNat : Int) == 47) = (a[i] == 47) := ub _ 47
      have h37 : ((a[i].toNat : Int) == 37) = (a[i] == 37) := ub _ 37
      have h42 : ((a[i].toNat : Int) = 42) = (a[i] = 42) := u8i _ 42
      have H := ih (i + 1) (by omega) ((a.take (i + 1)).any starry) ((a.take (i + 1)).any (fun c => c == 47)) rfl rfl
      rw [hts, hts, ← hst, ← hsl, ← hw] at H
      refine Ev.go (fun k => ?_) H
      rw [haversacklaw07_NamesStars.l0, if_pos (by omega), ba_size, btn, hg, h47, h37]
      cases st with
      | true =>
        rw [if_pos rfl, Bool.true_or]
        cases sl with
        | true => rw [if_pos rfl, Bool.true_or]
        | false => rw [if_neg (by decide), if_pos (by omega), if_pos (by omega), Bool.false_or]
      | false =>
        rw [if_neg (by decide), if_pos (by omega), if_pos (by omega), Bool.false_or]
        by_cases e : a[i] = 42
        · rw [if_pos (h42.mpr e)]
          have : starry a[i] = true := by rw [e]; rfl
          rw [this]
          cases sl with
          | true => rw [if_pos rfl, Bool.true_or]
          | false => rw [if_neg (by decide), Bool.false_or]
        · rw [if_neg (fun x => e (h42.mp x))]
          have : starry a[i] = (a[i] == 37) := by
            have e2 : (a[i] == 42) = false := beq_eq_false_iff_ne.mpr e
            show (a[i] == 42 || a[i] == 37) = _
            rw [e2]; rfl
          rw [this]
          cases sl with
          | true => rw [if_pos rfl, Bool.true_or]
          | false => rw [if_neg (by decide), Bool.false_or]
  refine Ev.go (fun k => ?_) (l0 a.length 0 (by omega) false false rfl rfl)
  rw [haversacklaw07_NamesStars.j0, if_neg (by decide), ba_size]
  rfl
theorem NamesStars : haversacklaw07_NamesStars.Pure := by
  intro a0 a1 a2 a3 _ _ _ _
  rw [ba_list a0, ba_list a1, ba_list a2, ba_list a3]
  generalize a0.data.toList = p
  generalize a1.data.toList = q
  generalize a2.data.toList = a
  generalize a3.data.toList = b
  have hal : Ev (fun k => haversacklaw07_NamesStars.j0 k ⟨p.toArray⟩ ⟨q.toArray⟩ ⟨a.toArray⟩ ⟨b.toArray⟩ true) true := by
    apply Ev.go
    · intro k; rw [haversacklaw07_NamesStars.j0, if_pos rfl]
    · exact Ev.bd alive_ev (Ev.ret _)
  have hev : Ev (fun k => haversacklaw07_NamesStars.f k ⟨p.toArray⟩ ⟨q.toArray⟩ ⟨a.toArray⟩ ⟨b.toArray⟩) true := by
    unfold haversacklaw07_NamesStars.f
    simp only [ba_size]
    by_cases c0 : (p.length : Int) > 300
    · simp only [if_pos c0]; exact hal
    · simp only [if_neg c0]
      by_cases c1 : (q.length : Int) > 300
      · simp only [if_pos c1]; exact hal
      · simp only [if_neg c1]
        by_cases c2 : (a.length : Int) > 300
        · simp only [if_pos c2]; exact hal
        · simp only [if_neg c2]
          by_cases c3 : (b.length : Int) > 300
          · simp only [decide_eq_true c3]; exact hal
          · simp only [decide_eq_false c3]
            exact stars_law p q a b (by omega) (by omega) (by omega) (by omega)
  obtain ⟨K, hK⟩ := hev
  exact ⟨K, hK K (Nat.le_refl _)⟩
end Go.Proofs.YtnkibbfpmhgeaaaDoor.Pure
