/-
  header: the document's marks and addresses over lists: they are the program's.
-/
import Derived.Test.YtkngjdhggcaonaaDoorPPx28
import Derived.Test.YtkngjdhggcaonaaDoorMyHeadA
namespace Go.Proofs.YtkngjdhggcaonaaDoor.Pure
open Go.RowKit Go.Proofs.YtkngjdhggcaonaaDoor.PP Go.Proofs.YtkngjdhggcaonaaDoor.My Go.Proofs.YtkngjdhggcaonaaDoorW.PrintWords Go.Proofs.YtkngjdhggcaonaaDoorW.PrintLast
set_option linter.unusedVariables false
set_option linter.unusedSimpArgs false
abbrev Adr := S33
abbrev Mk := UInt8 × Nat
/-- The marks of a text, from a state on: in quotes, in an angle, how deep in remarks. -/
def mkL (s : List UInt8) (q a : Bool) (d : Nat) : List Mk := match s with
  | [] => []
  | c :: r =>
    if 0 < d then
      (if c = 92 then (c, 1) :: (c, 1) :: mkL r.tail q a d else if c = 40 then (c, 1) :: mkL r q a (d + 1) else if c = 41 then (c, 1) :: mkL r q a (d - 1) else (c, 1) :: mkL r q a d)
    else if q = true ∧ c = 92 ∧ r ≠ [] then (c, 1) :: (r.headD 0, 0) :: mkL r.tail q a d
    else if c = 34 then (c, 1) :: mkL r (!q) a d
    else if q = true then (c, 0) :: mkL r q a d
    else if c = 40 then (c, 1) :: mkL r q a 1
    else if c = 60 ∧ a = false then (c, 2) :: mkL r q true d
    else if c = 62 ∧ a = true then (c, 3) :: mkL r q false d
    else if c = 44 ∧ a = false then (c, 4) :: mkL r q a d
    else (c, 0) :: mkL r q a d
termination_by s.length
decreasing_by all_goals simp only [List.length_cons, List.length_tail]; omega
def finA (ah inn : List UInt8) (g : Nat) (out : List Adr) : List Adr :=
  finF out (endF (if g = 0 then ah else inn) (if g = 0 then ⟨#[]⟩ else ⟨(takeL ah).toArray⟩) (decide (g ≠ 0)))
def adS : List Mk → List UInt8 → List UInt8 → Nat → List Adr → List Adr
  | [], ah, inn, g, out => finA ah inn g out
  | m :: ms, ah, inn, g, out =>
    if m.2 = 4 then adS ms [] [] 0 (finA ah inn g out)
    else if m.2 = 2 ∨ m.2 = 3 then adS ms ah inn (g + 1) out
    else if m.2 = 0 ∧ g = 0 then adS ms (ah ++ [m.1]) inn g out
    else if m.2 = 0 ∧ g = 1 then adS ms ah (inn ++ [m.1]) g out
    else adS ms ah inn g out
theorem adS_1 (c : UInt8) (ms : List Mk) (ah inn : List UInt8) (g : Nat) (out : List Adr) : adS ((c, 1) :: ms) ah inn g out = adS ms ah inn g out := by
  rw [adS]; simp
theorem adS_0 (c : UInt8) (ms : List Mk) (ah inn : List UInt8) (g : Nat) (out : List Adr) : adS ((c, 0) :: ms) ah inn g out = adS ms (if g = 0 then ah ++ [c] else ah) (if g = 1 then inn ++ [c] else inn) g out := by
  rw [adS]
  by_cases h0 : g = 0
  · subst h0; simp
  · by_cases h1 : g = 1
    · subst h1; simp
    · simp [h0, h1]
theorem adS_2 (c : UInt8) (ms : List Mk) (ah inn : List UInt8) (g : Nat) (out : List Adr) : adS ((c, 2) :: ms) ah inn g out = adS ms ah inn (g + 1) out := by
  rw [adS]; simp
theorem adS_3 (c : UInt8) (ms : List Mk) (ah inn : List UInt8) (g : Nat) (out : List Adr) : adS ((c, 3) :: ms) ah inn g out = adS ms ah inn (g + 1) out := by
  rw [adS]; simp
theorem adS_4 (c : UInt8) (ms : List Mk) (ah inn : List UInt8) (g : Nat) (out : List Adr) : adS ((c, 4) :: ms) ah inn g out = adS ms [] [] 0 (finA ah inn g out) := by
  rw [adS]; simp
theorem mk_nil (q a : Bool) (d : Nat) : mkL [] q a d = [] := by rw [mkL]
theorem mk_out (c : UInt8) (r : List UInt8) (a : Bool) : mkL (c :: r) false a 0 = if c = 34 then (c, 1) :: mkL r true a 0 else if c = 40 then (c, 1) :: mkL r false a 1 else if c = 60 ∧ a = false then (c, 2) :: mkL r false true 0 else if c = 62 ∧ a = true then (c, 3) :: mkL r false false 0 else if c = 44 ∧ a = false then (c, 4) :: mkL r false a 0 else (c, 0) :: mkL r false a 0 := by
  rw [mkL]
  simp
theorem mk_in (c : UInt8) (r : List UInt8) (a : Bool) : mkL (c :: r) true a 0 = if c = 92 ∧ r ≠ [] then (c, 1) :: (r.headD 0, 0) :: mkL r.tail true a 0 else if c = 34 then (c, 1) :: mkL r false a 0 else (c, 0) :: mkL r true a 0 := by
  rw [mkL]
  simp
theorem mk_deep (c : UInt8) (r : List UInt8) (a : Bool) (d : Nat) (h : 0 < d) : mkL (c :: r) false a d = if c = 92 then (c, 1) :: (c, 1) :: mkL r.tail false a d else if c = 40 then (c, 1) :: mkL r false a (d + 1) else if c = 41 then (c, 1) :: mkL r false a (d - 1) else (c, 1) :: mkL r false a d := by
  rw [mkL, if_pos h]
/-- A remark says nothing. -/
theorem mk_rem (a : Bool) (ah inn : List UInt8) (g : Nat) (out : List Adr) : ∀ (n : Nat) (r : List UInt8) (d : Nat), r.length ≤ n → 0 < d →
    adS (mkL r false a d) ah inn g out = adS (mkL (r.drop (remL (d : Int) r)) false a 0) ah inn g out := by
  intro n
  induction n with
  | zero =>
    intro r d hr hd
    obtain rfl : r = [] := List.length_eq_zero_iff.1 (by omega)
    simp [mkL]
  | succ n ih =>
    intro r d hr hd
    match r, hr with
    | [], _ => simp [mkL]
    | [c], _ =>
      rw [mk_deep _ _ _ _ hd]
      have e : mkL [] false a 0 = [] := by rw [mkL]
      have e' : ∀ d, mkL [] false a d = [] := fun d => by rw [mkL]
      have hx : ([c] : List UInt8).drop (remL (d : Int) [c]) = [] := rfl
      rw [hx, e]
      split
      · rw [adS_1, adS_1, List.tail_nil, e']
      · split
        · rw [adS_1, e']
        · split
          · rw [adS_1, e']
          · rw [adS_1, e']
    | c :: e :: r, hr =>
      simp only [List.length_cons] at hr
      rw [mk_deep _ _ _ _ hd, remL]
      by_cases h92 : c = 92
      · rw [if_pos h92, if_pos h92, adS_1, adS_1, List.tail_cons, ih r d (by omega) hd]
        rw [Nat.add_comm 2]; rfl
      · rw [if_neg h92, if_neg h92]
        by_cases h40 : c = 40
        · rw [if_pos h40, if_pos h40, adS_1, ih (e :: r) (d + 1) (by simp; omega) (by omega)]
          rw [Nat.add_comm 1]; rfl
        · rw [if_neg h40, if_neg h40]
          by_cases h41 : c = 41
          · rw [if_pos h41, if_pos h41, adS_1]
            by_cases h1 : d = 1
            · subst h1
              rw [if_pos (by decide)]
              rfl
            · rw [if_neg (by omega), ih (e :: r) (d - 1) (by simp; omega) (by omega)]
              rw [show (((d - 1 : Nat) : Int)) = (d : Int) - 1 by omega, Nat.add_comm 1]; rfl
          · rw [if_neg h41, if_neg h41, adS_1, ih (e :: r) d (by simp; omega) hd]
            rw [Nat.add_comm 1]; rfl
/-- What stands in quotes is said. -/
theorem mk_quo (a : Bool) (g : Nat) (out : List Adr) : ∀ (n : Nat) (r ah inn : List UInt8), r.length ≤ n →
    adS (mkL r true a 0) ah inn g out = adS (mkL (r.drop (quoF r).2) false a 0) (if g = 0 then ah ++ (quoF r).1 else ah) (if g = 1 then inn ++ (quoF r).1 else inn) g out := by
  intro n
  induction n with
  | zero =>
    intro r ah inn hr
    obtain rfl : r = [] := List.length_eq_zero_iff.1 (by omega)
    simp [mkL, quoF]
  | succ n ih =>
    intro r ah inn hr
    have e' : ∀ q, mkL [] q a 0 = [] := fun q => by rw [mkL]
    match r, hr with
    | [], _ => simp [mkL, quoF]
    | [c], _ =>
      rw [mk_in, if_neg (by simp), quoF]
      by_cases h34 : c = 34
      · rw [if_pos h34, if_pos h34, adS_1, e']
        simp [e']
      · rw [if_neg h34, if_neg h34, adS_0, e']
        simp [e']
    | c :: e :: r, hr =>
      simp only [List.length_cons] at hr
      rw [mk_in, quoF]
      by_cases h34 : c = 34
      · rw [if_neg (by rw [h34]; simp), if_pos h34, if_pos h34, adS_1]
        simp
      · by_cases h92 : c = 92
        · rw [if_pos ⟨h92, by simp⟩, if_neg h34, if_pos h92, adS_1, adS_0, List.tail_cons, ih r _ _ (by omega)]
          simp only [List.headD_cons]
          have hd : (c :: e :: r).drop ((quoF r).2 + 2) = r.drop (quoF r).2 := rfl
          rw [hd]
          congr 1
          · split <;> simp
          · split <;> simp
        · rw [if_neg (fun h => h92 h.1), if_neg h34, if_neg h34, if_neg h92, adS_0, ih (e :: r) _ _ (by simp; omega)]
          have hd : (c :: e :: r).drop ((quoF (e :: r)).2 + 1) = (e :: r).drop (quoF (e :: r)).2 := rfl
          rw [hd]
          congr 1
          · split <;> simp
          · split <;> simp
theorem rem_open (r : List UInt8) : (40 :: r).drop (remL 0 (40 :: r)) = r.drop (remL 1 r) := by
  cases r with
  | nil => rfl
  | cons e r =>
    rw [remL, if_neg (by decide), if_pos rfl, Nat.add_comm 1]
    rfl
/-- The program's addresses are those of the marks. -/
theorem adr_marks : ∀ (n : Nat) (s : List UInt8) (inb : Bool) (ah inn : List UInt8) (g : Nat) (out : List Adr), s.length < n → (inb = true → 1 ≤ g) → (g = 1 → inb = true) → (g = 0 → inn = []) →
    adrL n s inb (if g = 0 then ah else inn) (if g = 0 then ⟨#[]⟩ else ⟨(takeL ah).toArray⟩) (decide (g ≠ 0)) (decide (2 ≤ g)) out = adS (mkL s false inb 0) ah inn g out := by
  intro n
  induction n with
  | zero => intro s _ _ _ _ _ h; omega
  | succ n ih =>
    intro s inb ah inn g out hn i1 i2 i3
    cases s with
    | nil =>
      rw [mkL, adrL, adS]
      rfl
    | cons c r =>
      simp only [List.length_cons] at hn
      rw [mk_out, adrL]
      have said : ∀ x : List UInt8, (if decide (2 ≤ g) = true then (if g = 0 then ah else inn) else (if g = 0 then ah else inn) ++ x) = (if g = 0 then (if g = 0 then ah ++ x else ah) else (if g = 1 then inn ++ x else inn)) := by
        intro x
        by_cases h0 : g = 0
        · subst h0; simp
        · by_cases h1 : g = 1
          · subst h1; simp
          · have : 2 ≤ g := by omega
            simp [h0, h1, this]
      have name : ∀ x : List UInt8, (if g = 0 then (⟨#[]⟩ : ByteArray) else ⟨(takeL ah).toArray⟩) = (if g = 0 then (⟨#[]⟩ : ByteArray) else ⟨(takeL (if g = 0 then ah ++ x else ah)).toArray⟩) := by
        intro x
        by_cases h0 : g = 0
        · simp [h0]
        · simp [h0]
      by_cases h34 : c = 34
      · rw [if_pos h34, if_pos h34, adS_1, mk_quo inb g out _ r ah inn (Nat.le_refl _), said, name (quoF r).1]
        exact ih _ inb _ _ g out (by rw [List.length_drop]; omega) i1 i2 (fun h => by simp [h, i3 h])
      · rw [if_neg h34, if_neg h34]
        by_cases h40 : c = 40
        · subst h40
          rw [if_pos rfl, if_pos rfl, adS_1, mk_rem inb ah inn g out _ r 1 (Nat.le_refl _) (by omega), rem_open]
          exact ih _ inb _ _ g out (by rw [List.length_drop]; omega) i1 i2 i3
        · rw [if_neg h40, if_neg h40]
          by_cases h60 : c = 60 ∧ inb = false
          · rw [if_pos h60, if_pos h60, adS_2]
            by_cases h0 : g = 0
            · subst h0
              rw [if_neg (by decide)]
              have := ih r true ah inn 1 out (by omega) (by simp) (by simp) (by simp)
              rw [i3 rfl] at this ⊢
              exact this
            · rw [if_pos (by simpa using h0)]
              have h1 : ¬ g = 1 := fun h => by have := i2 h; rw [h60.2] at this; cases this
              have := ih r true ah inn (g + 1) out (by omega) (by simp) (by simp) (by simp)
              have e2 : decide (2 ≤ g + 1) = decide (2 ≤ g) := by rw [decide_eq_true (by omega : 2 ≤ g + 1), decide_eq_true (by omega : 2 ≤ g)]
              have e3 : decide (g + 1 ≠ 0) = decide (g ≠ 0) := by rw [decide_eq_true (by omega : g + 1 ≠ 0), decide_eq_true (by omega : g ≠ 0)]
              rw [if_neg (by omega), if_neg (by omega), e2, e3] at this
              rw [if_neg h0, if_neg h0]
              exact this
          · rw [if_neg h60, if_neg h60]
            by_cases h62 : c = 62 ∧ inb = true
            · rw [if_pos h62, if_pos h62, adS_3]
              have hg := i1 h62.2
              have := ih r false ah inn (g + 1) out (by omega) (by simp) (by omega) (by simp)
              have e2 : decide (2 ≤ g + 1) = true := decide_eq_true (by omega)
              have e3 : decide (g + 1 ≠ 0) = decide (g ≠ 0) := by rw [decide_eq_true (by omega : g + 1 ≠ 0), decide_eq_true (by omega : g ≠ 0)]
              rw [if_neg (by omega), if_neg (by omega), e2, e3] at this
              rw [if_neg (by omega), if_neg (by omega)]
              exact this
            · rw [if_neg h62, if_neg h62]
              by_cases h44 : c = 44 ∧ inb = false
              · rw [if_pos h44, if_pos h44, adS_4]
                have := ih r inb [] [] 0 (finA ah inn g out) (by omega) (by simp [h44.2]) (by simp) (by simp)
                exact this
              · rw [if_neg h44, if_neg h44, adS_0, said, name [c]]
                exact ih _ inb _ _ g out (by omega) i1 i2 (fun h => by simp [h, i3 h])
theorem adrs_marks (s : List UInt8) : adrs s = adS (mkL s false false 0) [] [] 0 [] :=
  adr_marks (s.length + 1) s false [] [] 0 [] (by omega) (by simp) (by simp) (by simp)
end Go.Proofs.YtkngjdhggcaonaaDoor.Pure
