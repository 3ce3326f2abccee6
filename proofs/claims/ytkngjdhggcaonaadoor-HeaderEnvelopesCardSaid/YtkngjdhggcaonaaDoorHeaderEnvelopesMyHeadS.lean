/- YtkngjdhggcaonaaDoorMyHeadS, as far as HeaderEnvelopes needs it (prune.py). -/
import Derived.Test.YtkngjdhggcaonaaDoorHeaderEnvelopesMyHeadO
import Derived.Test.YtkngjdhggcaonaaDoorHeaderEnvelopesPPx28
namespace Go.Proofs.YtkngjdhggcaonaaDoor.Pure
open Go.RowKit Go.Proofs.YtkngjdhggcaonaaDoor.PP Go.Proofs.YtkngjdhggcaonaaDoor.My Go.Proofs.YtkngjdhggcaonaaDoorW.PrintWords Go.Proofs.YtkngjdhggcaonaaDoorW.PrintLast
set_option linter.unusedVariables false
set_option linter.unusedSimpArgs false
abbrev Adr := S33
abbrev Mk := UInt8 × Nat
/-- The marks of a text, from a state on: in quotes, in an angle, how deep in remarks. -/
def mkL (s : List UInt8) (q a : Bool) (d : Nat) : List Mk := match s with
  | [] => []
  | c :: r =>
    if 0 < d then
      (if c = 92 then (c, 1) :: (c, 1) :: mkL r.tail q a d else if c = 40 then (c, 1) :: mkL r q a (d + 1) else if c = 41 then (c, 1) :: mkL r q a (d - 1) else (c, 1) :: mkL r q a d)
    else if q = true ∧ c = 92 ∧ r ≠ [] then (c, 1) :: (r.headD 0, 0) :: mkL r.tail q a d
    else if c = 34 then (c, 1) :: mkL r (!q) a d
    else if q = true then (c, 0) :: mkL r q a d
    else if c = 40 then (c, 1) :: mkL r q a 1
    else if c = 60 ∧ a = false then (c, 2) :: mkL r q true d
    else if c = 62 ∧ a = true then (c, 3) :: mkL r q false d
    else if c = 44 ∧ a = false then (c, 4) :: mkL r q a d
    else (c, 0) :: mkL r q a d
termination_by s.length
decreasing_by all_goals simp only [List.length_cons, List.length_tail]; omega
def finA (ah inn : List UInt8) (g : Nat) (out : List Adr) : List Adr :=
  finF out (endF (if g = 0 then ah else inn) (if g = 0 then ⟨#[]⟩ else ⟨(takeL ah).toArray⟩) (decide (g ≠ 0)))
def adS : List Mk → List UInt8 → List UInt8 → Nat → List Adr → List Adr
  | [], ah, inn, g, out => finA ah inn g out
  | m :: ms, ah, inn, g, out =>
    if m.2 = 4 then adS ms [] [] 0 (finA ah inn g out)
    else if m.2 = 2 ∨ m.2 = 3 then adS ms ah inn (g + 1) out
    else if m.2 = 0 ∧ g = 0 then adS ms (ah ++ [m.1]) inn g out
    else if m.2 = 0 ∧ g = 1 then adS ms ah (inn ++ [m.1]) g out
    else adS ms ah inn g out
theorem adS_1 (c : UInt8) (ms : List Mk) (ah inn : List UInt8) (g : Nat) (out : List Adr) : adS ((c, 1) :: ms) ah inn g out = adS ms ah inn g out := by
  rw [adS]; simp
theorem adS_0 (c : UInt8) (ms : List Mk) (ah inn : List UInt8) (g : Nat) (out : List Adr) : adS ((c, 0) :: ms) ah inn g out = adS ms (if g = 0 then ah ++ [c] else ah) (if g = 1 then inn ++ [c] else inn) g out := by
  rw [adS]
  by_cases h0 : g = 0
  · subst h0; simp
  · by_cases h1 : g = 1
    · subst h1; simp
    · simp [h0, h1]
theorem adS_2 (c : UInt8) (ms : List Mk) (ah inn : List UInt8) (g : Nat) (out : List Adr) : adS ((c, 2) :: ms) ah inn g out = adS ms ah inn (g + 1) out := by
  rw [adS]; simp
theorem adS_3 (c : UInt8) (ms : List Mk) (ah inn : List UInt8) (g : Nat) (out : List Adr) : adS ((c, 3) :: ms) ah inn g out = adS ms ah inn (g + 1) out := by
  rw [adS]; simp
theorem adS_4 (c : UInt8) (ms : List Mk) (ah inn : List UInt8) (g : Nat) (out : List Adr) : adS ((c, 4) :: ms) ah inn g out = adS ms [] [] 0 (finA ah inn g out) := by
  rw [adS]; simp
theorem mk_nil (q a : Bool) (d : Nat) : mkL [] q a d = [] := by rw [mkL]
theorem mk_out (c : UInt8) (r : List UInt8) (a : Bool) : mkL (c :: r) false a 0 = if c = 34 then (c, 1) :: mkL r true a 0 else if c = 40 then (c, 1) :: mkL r false a 1 else if c = 60 ∧ a = false then (c, 2) :: mkL r false true 0 else if c = 62 ∧ a = true then (c, 3) :: mkL r false false 0 else if c = 44 ∧ a = false then (c, 4) :: mkL r false a 0 else (c, 0) :: mkL r false a 0 := by
  rw [mkL]
  simp
theorem mk_in (c : UInt8) (r : List UInt8) (a : Bool) : mkL (c :: r) true a 0 = if c = 92 ∧ r ≠ [] then (c, 1) :: (r.headD 0, 0) :: mkL r.tail true a 0 else if c = 34 then (c, 1) :: mkL r false a 0 else (c, 0) :: mkL r true a 0 := by
  rw [mkL]
  simp
theorem mk_deep (c : UInt8) (r : List UInt8) (a : Bool) (d : Nat) (h : 0 < d) : mkL (c :: r) false a d = if c = 92 then (c, 1) :: (c, 1) :: mkL r.tail false a d else if c = 40 then (c, 1) :: mkL r false a (d + 1) else if c = 41 then (c, 1) :: mkL r false a (d - 1) else (c, 1) :: mkL r false a d := by
  rw [mkL, if_pos h]
/-- A remark says nothing. -/
theorem mk_rem (a : Bool) (ah inn : List UInt8) (g : Nat) (out : List Adr) : ∀ (n : Nat) (r : List UInt8) (d : Nat), r.length ≤ n → 0 < d →
    adS (mkL r false a d) ah inn g out = adS (mkL (r.drop (remL (d : Int) r)) false a 0) ah inn g out := by
  intro n
  induction n with
  | zero =>
    intro r d hr hd
    obtain rfl : r = [] := List.length_eq_zero_iff.1 (by omega)
    simp [mkL]
  | succ n ih =>
    intro r d hr hd
    match r, hr with
    | [], _ => simp [mkL]
    | [c], _ =>
      rw [mk_deep _ _ _ _ hd]
      have e : mkL [] false a 0 = [] := by rw [mkL]
      have e' : ∀ d, mkL [] false a d = [] := fun d => by rw [mkL]
      have hx : ([c] : List UInt8).drop (remL (d : Int) [c]) = [] := rfl
      rw [hx, e]
      split
      · rw [adS_1, adS_1, List.tail_nil, e']
      · split
        · rw [adS_1, e']
        · split
          · rw [adS_1, e']
          · rw [adS_1, e']
    | c :: e :: r, hr =>
      simp only [List.length_cons] at hr
      rw [mk_deep _ _ _ _ hd, remL]
      by_cases h92 : c = 92
      · rw [if_pos h92, if_pos h92, adS_1, adS_1, List.tail_cons, ih r d (by omega) hd]
        rw [Nat.add_comm 2]; rfl
      · rw [if_neg h92, if_neg h92]
        by_cases h40 : c = 40
        · rw [if_pos h40, if_pos h40, adS_1, ih (e :: r) (d + 1) (by simp; omega) (by omega)]
          rw [Nat.add_comm 1]; rfl
        · rw [if_neg h40, if_neg h40]
          by_cases h41 : c = 41
          · rw [if_pos h41, if_pos h41, adS_1]
            by_cases h1 : d = 1
            · subst h1
              rw [if_pos (by decide)]
              rfl
            · rw [if_neg (by omega), ih (e :: r) (d - 1) (by simp; omega) (by omega)]
              rw [show (((d - 1 : Nat) : Int)) = (d : Int) - 1 by omega, Nat.add_comm 1]; rfl
          · rw [if_neg h41, if_neg h41, adS_1, ih (e :: r) d (by simp; omega) hd]
            rw [Nat.add_comm 1]; rfl
/-- What stands in quotes is said. -/
theorem mk_quo (a : Bool) (g : Nat) (out : List Adr) : ∀ (n : Nat) (r ah inn : List UInt8), r.length ≤ n →
    adS (mkL r true a 0) ah inn g out = adS (mkL (r.drop (quoF r).2) false a 0) (if g = 0 then ah ++ (quoF r).1 else ah) (if g = 1 then inn ++ (quoF r).1 else inn) g out := by
  intro n
  induction n with
  | zero =>
    intro r ah inn hr
    obtain rfl : r = [] := List.length_eq_zero_iff.1 (by omega)
    simp [mkL, quoF]
  | succ n ih =>
    intro r ah inn hr
    have e' : ∀ q, mkL [] q a 0 = [] := fun q => by rw [mkL]
    match r, hr with
    | [], _ => simp [mkL, quoF]
    | [c], _ =>
      rw [mk_in, if_neg (by simp), quoF]
      by_cases h34 : c = 34
      · rw [if_pos h34, if_pos h34, adS_1, e']
        simp [e']
      · rw [if_neg h34, if_neg h34, adS_0, e']
        simp [e']
    | c :: e :: r, hr =>
      simp only [List.length_cons] at hr
      rw [mk_in, quoF]
      by_cases h34 : c = 34
      · rw [if_neg (by rw [h34]; simp), if_pos h34, if_pos h34, adS_1]
        simp
      · by_cases h92 : c = 92
        · rw [if_pos ⟨h92, by simp⟩, if_neg h34, if_pos h92, adS_1, adS_0, List.tail_cons, ih r _ _ (by omega)]
          simp only [List.headD_cons]
          have hd : (c :: e :: r).drop ((quoF r).2 + 2) = r.drop (quoF r).2 := rfl
          rw [hd]
          congr 1
          · split <;> simp
          · split <;> simp
        · rw [if_neg (fun h => h92 h.1), if_neg h34, if_neg h34, if_neg h92, adS_0, ih (e :: r) _ _ (by simp; omega)]
          have hd : (c :: e :: r).drop ((quoF (e :: r)).2 + 1) = (e :: r).drop (quoF (e :: r)).2 := rfl
          rw [hd]
          congr 1
          · split <;> simp
          · split <;> simp
theorem rem_open (r : List UInt8) : (40 :: r).drop (remL 0 (40 :: r)) = r.drop (remL 1 r) := by
  cases r with
  | nil => rfl
  | cons e r =>
    rw [remL, if_neg (by decide), if_pos rfl, Nat.add_comm 1]
    rfl
/-- The program's addresses are those of the marks. -/
theorem adr_marks : ∀ (n : Nat) (s : List UInt8) (inb : Bool) (ah inn : List UInt8) (g : Nat) (out : List Adr), s.length < n → (inb = true → 1 ≤ g) → (g = 1 → inb = true) → (g = 0 → inn = []) →
    adrL n s inb (if g = 0 then ah else inn) (if g = 0 then ⟨#[]⟩ else ⟨(takeL ah).toArray⟩) (decide (g ≠ 0)) (decide (2 ≤ g)) out = adS (mkL s false inb 0) ah inn g out := by
  intro n
  induction n with
  | zero => intro s _ _ _ _ _ h; omega
  | succ n ih =>
    intro s inb ah inn g out hn i1 i2 i3
    cases s with
    | nil =>
      rw [mkL, adrL, adS]
      rfl
    | cons c r =>
      simp only [List.length_cons] at hn
      rw [mk_out, adrL]
      have said : ∀ x : List UInt8, (if decide (2 ≤ g) = true then (if g = 0 then ah else inn) else (if g = 0 then ah else inn) ++ x) = (if g = 0 then (if g = 0 then ah ++ x else ah) else (if g = 1 then inn ++ x else inn)) := by
        intro x
        by_cases h0 : g = 0
        · subst h0; simp
        · by_cases h1 : g = 1
          · subst h1; simp
          · have : 2 ≤ g := by omega
            simp [h0, h1, this]
      have name : ∀ x : List UInt8, (if g = 0 then (⟨#[]⟩ : ByteArray) else ⟨(takeL ah).toArray⟩) = (if g = 0 then (⟨#[]⟩ : ByteArray) else ⟨(takeL (if g = 0 then ah ++ x else ah)).toArray⟩) := by
        intro x
        by_cases h0 : g = 0
        · simp [h0]
        · simp [h0]
      by_cases h34 : c = 34
      · rw [if_pos h34, if_pos h34, adS_1, mk_quo inb g out _ r ah inn (Nat.le_refl _), said, name (quoF r).1]
        exact ih _ inb _ _ g out (by rw [List.length_drop]; omega) i1 i2 (fun h => by simp [h, i3 h])
      · rw [if_neg h34, if_neg h34]
        by_cases h40 : c = 40
        · subst h40
          rw [if_pos rfl, if_pos rfl, adS_1, mk_rem inb ah inn g out _ r 1 (Nat.le_refl _) (by omega), rem_open]
          exact ih _ inb _ _ g out (by rw [List.length_drop]; omega) i1 i2 i3
        · rw [if_neg h40, if_neg h40]
          by_cases h60 : c = 60 ∧ inb = false
          · rw [if_pos h60, if_pos h60, adS_2]
            by_cases h0 : g = 0
            · subst h0
              rw [if_neg (by decide)]
              have := ih r true ah inn 1 out (by omega) (by simp) (by simp) (by simp)
              rw [i3 rfl] at this ⊢
              exact this
            · rw [if_pos (by simpa using h0)]
              have h1 : ¬ g = 1 := fun h => by have := i2 h; rw [h60.2] at this; cases this
              have := ih r true ah inn (g + 1) out (by omega) (by simp) (by simp) (by simp)
              have e2 : decide (2 ≤ g + 1) = decide (2 ≤ g) := by rw [decide_eq_true (by omega : 2 ≤ g + 1), decide_eq_true (by omega : 2 ≤ g)]
              have e3 : decide (g + 1 ≠ 0) = decide (g ≠ 0) := by rw [decide_eq_true (by omega : g + 1 ≠ 0), decide_eq_true (by omega : g ≠ 0)]
              rw [if_neg (by omega), if_neg (by omega), e2, e3] at this
              rw [if_neg h0, if_neg h0]
              exact this
          · rw [if_neg h60, if_neg h60]
            by_cases h62 : c = 62 ∧ inb = true
            · rw [if_pos h62, if_pos h62, adS_3]
              have hg := i1 h62.2
              have := ih r false ah inn (g + 1) out (by omega) (by simp) (by omega) (by simp)
              have e2 : decide (2 ≤ g + 1) = true := decide_eq_true (by omega)
              have e3 : decide (g + 1 ≠ 0) = decide (g ≠ 0) := by rw [decide_eq_true (by omega : g + 1 ≠ 0), decide_eq_true (by omega : g ≠ 0)]
              rw [if_neg (by omega), if_neg (by omega), e2, e3] at this
              rw [if_neg (by omega), if_neg (by omega)]
              exact this
            · rw [if_neg h62, if_neg h62]
              by_cases h44 : c = 44 ∧ inb = false
              · rw [if_pos h44, if_pos h44, adS_4]
                have := ih r inb [] [] 0 (finA ah inn g out) (by omega) (by simp [h44.2]) (by simp) (by simp)
                exact this
              · rw [if_neg h44, if_neg h44, adS_0, said, name [c]]
                exact ih _ inb _ _ g out (by omega) i1 i2 (fun h => by simp [h, i3 h])
theorem adrs_marks (s : List UInt8) : adrs s = adS (mkL s false false 0) [] [] 0 [] :=
  adr_marks (s.length + 1) s false [] [] 0 [] (by omega) (by simp) (by simp) (by simp)
/-- A sum that does not wrap, hidden from omega. -/
structure Wr (a b : Int) : Prop where
  e : wrap64 a = b
abbrev mB (l : List Mk) : List S74 := l.map fun m => ⟨(m.1.toNat : Int), (m.2 : Int)⟩
theorem mB_push (l : List Mk) (c : UInt8) (n : Nat) (x : Int) (hx : x = (n : Int)) : mB l ++ [(⟨(c.toNat : Int), x⟩ : S74)] = mB (l ++ [(c, n)]) := by
  rw [hx]; simp [mB]
theorem bB_app (a b : List UInt8) : B a ++ B b = B (a ++ b) := by
  apply ByteArray.ext
  apply Array.ext'
  simp
section
variable (s : List UInt8) (hl : s.length ≤ 1000000000)
include hl
/-- The document's marks. -/
theorem marks_ev : ∀ (n i : Nat) (q a : Bool) (d : Nat) (out : List Mk), s.length - i ≤ n → i ≤ s.length + 1 → d ≤ i → out.length ≤ 2 * i →
    Ev (fun k => haversackref10_Marks.l0 k (B s) (mB out) q a (d : Int) (i : Int)) (mB (out ++ mkL (s.drop i) q a d)) := by
  intro n
  induction n using Nat.strongRecOn with
  | _ n ih =>
    intro i q a d out hn hi hd ho
    by_cases hp : i < s.length
    · obtain ⟨c, hc⟩ : ∃ c, c = s[i] := ⟨_, rfl⟩
      obtain ⟨r, hr⟩ : ∃ r, r = s.drop (i + 1) := ⟨_, rfl⟩
      have hdr : s.drop i = c :: r := by rw [hc, hr]; exact List.drop_eq_getElem_cons hp
      have hrl : r.length = s.length - (i + 1) := by rw [hr]; simp
      have g : (i : Int) < ((B s).size : Int) := by rw [bS]; omega
      have g0 : (0 : Int) ≤ (i : Int) := by omega
      have hb : bt (B s) (i : Int) = (c.toNat : Int) := by rw [btn s i hp, hc]
      have hlo : ∀ x : List Mk, x.length ≤ out.length + 1 → (mB x).length < 8796093022208 := by intro x hx; rw [List.length_map]; omega
      have hlo0 := hlo out (by omega)
      have one : ∀ (q' a' : Bool) (d' : Nat) (m : Nat), d' ≤ i + 1 → Ev (fun k => haversackref10_Marks.l0 k (B s) (mB (out ++ [(c, m)])) q' a' (d' : Int) ((i + 1 : Nat) : Int)) (mB (out ++ (c, m) :: mkL r q' a' d')) := by
        intro q' a' d' m h
        have := ih (s.length - (i + 1)) (by omega) (i + 1) q' a' d' (out ++ [(c, m)]) (Nat.le_refl _) (by omega) h (by rw [List.length_append]; simp only [List.length_cons, List.length_nil]; omega)
        rw [← hr, List.append_assoc, List.singleton_append] at this
        exact this
      have two : ∀ (m : Nat) (e : UInt8) (m2 : Nat), Ev (fun k => haversackref10_Marks.l0 k (B s) (mB (out ++ [(c, m)] ++ [(e, m2)])) q a (d : Int) ((i + 2 : Nat) : Int)) (mB (out ++ (c, m) :: (e, m2) :: mkL r.tail q a d)) := by
        intro m e m2
        have := ih (s.length - (i + 2)) (by omega) (i + 2) q a d (out ++ [(c, m)] ++ [(e, m2)]) (Nat.le_refl _) (by omega) (by omega) (by simp only [List.length_append, List.length_cons, List.length_nil]; omega)
        have ht : s.drop (i + 2) = r.tail := by rw [hr, List.tail_drop]
        rw [ht] at this
        simp only [List.append_assoc, List.singleton_append, List.cons_append, List.nil_append] at this ⊢
        exact this
      have w1 : Wr ((i : Int) + 1) ((i + 1 : Nat) : Int) := ⟨w64 (x := (i : Int) + 1) (by omega)⟩
      have w2 : Wr (((i + 1 : Nat) : Int) + 1) ((i + 2 : Nat) : Int) := ⟨w64 (x := ((i + 1 : Nat) : Int) + 1) (by omega)⟩
      have w3 : Wr ((d : Int) + 1) ((d + 1 : Nat) : Int) := ⟨w64 (x := (d : Int) + 1) (by omega)⟩
      have J0 : ∀ k, haversackref10_Marks.l0 (k + 1) (B s) (mB out) q a (d : Int) (i : Int) = haversackref10_Marks.j1 k (B s) (mB out) q a (d : Int) (i : Int) (decide (c = 92 ∧ r ≠ [])) (c.toNat : Int) 0 := by
        intro k
        have e1 : decide (((i + 1 : Nat) : Int) < ((B s).size : Int)) = decide (r ≠ []) := by
          rw [decide_eq_decide, bS]
          constructor
          · intro h h0; rw [h0] at hrl; simp at hrl; omega
          · intro h
            have : 0 < r.length := List.length_pos_iff.2 h
            omega
        rw [haversackref10_Marks.l0, if_pos g, if_pos g0, hb, w1.e, e1]
        simp only [u92]
        by_cases h92 : c = 92
        · rw [if_pos h92]
          congr 1
          simp [h92]
        · rw [if_neg h92]
          congr 1
          simp [h92]
      refine Ev.go J0 ?_
      rw [hdr, mkL]
      by_cases h0 : 0 < d
      · have gd : (d : Int) > 0 := by omega
        have w4 : Wr ((d : Int) - 1) ((d - 1 : Nat) : Int) := ⟨by
          rw [w64 (x := (d : Int) - 1) (by omega)]; omega⟩
        rw [if_pos h0]
        have J1 : ∀ k b, haversackref10_Marks.j1 (k + 1) (B s) (mB out) q a (d : Int) (i : Int) b (c.toNat : Int) 0 = (if c = 92 then haversackref10_Marks.l0 k (B s) (mB (out ++ [(c, 1)] ++ [(c, 1)])) q a (d : Int) ((i + 2 : Nat) : Int) else if c = 40 then haversackref10_Marks.l0 k (B s) (mB (out ++ [(c, 1)])) q a ((d + 1 : Nat) : Int) ((i + 1 : Nat) : Int) else if c = 41 then haversackref10_Marks.l0 k (B s) (mB (out ++ [(c, 1)])) q a ((d - 1 : Nat) : Int) ((i + 1 : Nat) : Int) else haversackref10_Marks.l0 k (B s) (mB (out ++ [(c, 1)])) q a (d : Int) ((i + 1 : Nat) : Int)) := by
          intro k b
          rw [haversackref10_Marks.j1, if_pos gd, if_pos g0, if_pos g, hb]
          simp only [u92, u40, u41, if_pos hlo0, Option.bind_some, mB_push out c 1 1 rfl, if_pos (hlo (out ++ [(c, 1)]) (by simp)), mB_push (out ++ [(c, 1)]) c 1 1 rfl, w1.e, w2.e, w3.e, w4.e]
        by_cases h92 : c = 92
        · rw [if_pos h92]
          exact Ev.go (fun k => by rw [J1, if_pos h92]) (two 1 c 1)
        · rw [if_neg h92]
          by_cases h40 : c = 40
          · rw [if_pos h40]
            exact Ev.go (fun k => by rw [J1, if_neg h92, if_pos h40]) (one q a (d + 1) 1 (by omega))
          · rw [if_neg h40]
            by_cases h41 : c = 41
            · rw [if_pos h41]
              exact Ev.go (fun k => by rw [J1, if_neg h92, if_neg h40, if_pos h41]) (one q a (d - 1) 1 (by omega))
            · rw [if_neg h41]
              exact Ev.go (fun k => by rw [J1, if_neg h92, if_neg h40, if_neg h41]) (one q a d 1 (by omega))
      · obtain rfl : d = 0 := by omega
        have gd : ¬ ((0 : Nat) : Int) > 0 := by decide
        rw [if_neg h0]
        have J1 : ∀ k, haversackref10_Marks.j1 (k + 1) (B s) (mB out) q a ((0 : Nat) : Int) (i : Int) (decide (c = 92 ∧ r ≠ [])) (c.toNat : Int) 0 = haversackref10_Marks.j2 k (B s) (mB out) q a ((0 : Nat) : Int) (i : Int) (decide (q = true ∧ c = 92 ∧ r ≠ [])) (c.toNat : Int) 0 := by
          intro k
          rw [haversackref10_Marks.j1, if_neg gd]
          cases q with
          | true => rw [if_pos rfl]; congr 1; simp
          | false => rw [if_neg (by decide)]; congr 1
        refine Ev.go J1 ?_
        by_cases hq : q = true ∧ c = 92 ∧ r ≠ []
        · rw [if_pos hq, decide_eq_true hq]
          obtain ⟨hq1, hq2, hq3⟩ := hq
          have hr1 : i + 1 < s.length := by
            have : 0 < r.length := List.length_pos_iff.2 hq3
            omega
          have hb2 : bt (B s) ((i + 1 : Nat) : Int) = ((r.headD 0).toNat : Int) := by
            rw [btn s (i + 1) hr1]
            have : r.headD 0 = s[i + 1] := by rw [hr, List.drop_eq_getElem_cons hr1]; rfl
            rw [this]
          have g2 : (0 : Int) ≤ ((i + 1 : Nat) : Int) := by omega
          have g3 : ((i + 1 : Nat) : Int) < ((B s).size : Int) := by rw [bS]; omega
          refine Ev.go (fun k => by
            rw [haversackref10_Marks.j2, if_pos rfl, if_pos g0, if_pos g, hb, w1.e, if_pos hlo0, Option.bind_some, mB_push out c 1 1 rfl, if_pos g2, if_pos g3, if_pos (hlo (out ++ [(c, 1)]) (by simp)), hb2, mB_push (out ++ [(c, 1)]) _ 0 0 rfl, w2.e]) ?_
          exact two 1 (r.headD 0) 0
        · rw [if_neg hq, decide_eq_false hq]
          have J2 : ∀ k, haversackref10_Marks.j2 (k + 1) (B s) (mB out) q a ((0 : Nat) : Int) (i : Int) false (c.toNat : Int) 0 = (if c = 34 then haversackref10_Marks.l0 k (B s) (mB (out ++ [(c, 1)])) (!q) a ((0 : Nat) : Int) ((i + 1 : Nat) : Int) else if q = true then haversackref10_Marks.l0 k (B s) (mB (out ++ [(c, 0)])) q a ((0 : Nat) : Int) ((i + 1 : Nat) : Int) else if c = 40 then haversackref10_Marks.l0 k (B s) (mB (out ++ [(c, 1)])) q a ((1 : Nat) : Int) ((i + 1 : Nat) : Int) else if c = 60 then haversackref10_Marks.j3 k (B s) (mB out) q a ((0 : Nat) : Int) (i : Int) (!a) (c.toNat : Int) 0 else haversackref10_Marks.j3 k (B s) (mB out) q a ((0 : Nat) : Int) (i : Int) false (c.toNat : Int) 0) := by
            intro k
            rw [haversackref10_Marks.j2, if_neg (by decide), if_pos g0, if_pos g, hb]
            simp only [u34, u40, u60, if_pos hlo0, mB_push out c 1 1 rfl, mB_push out c 0 0 rfl, w1.e]
            rfl
          by_cases h34 : c = 34
          · rw [if_pos h34]
            exact Ev.go (fun k => by rw [J2, if_pos h34]) (one (!q) a 0 1 (by omega))
          · rw [if_neg h34]
            by_cases hqt : q = true
            · rw [if_pos hqt]
              exact Ev.go (fun k => by rw [J2, if_neg h34, if_pos hqt]) (one q a 0 0 (by omega))
            · rw [if_neg hqt]
              by_cases h40 : c = 40
              · rw [if_pos h40]
                exact Ev.go (fun k => by rw [J2, if_neg h34, if_neg hqt, if_pos h40]) (one q a 1 1 (by omega))
              · rw [if_neg h40]
                have J2' : ∀ k, haversackref10_Marks.j2 (k + 1) (B s) (mB out) q a ((0 : Nat) : Int) (i : Int) false (c.toNat : Int) 0 = haversackref10_Marks.j3 k (B s) (mB out) q a ((0 : Nat) : Int) (i : Int) (decide (c = 60 ∧ a = false)) (c.toNat : Int) 0 := by
                  intro k
                  rw [J2, if_neg h34, if_neg hqt, if_neg h40]
                  by_cases h60 : c = 60
                  · rw [if_pos h60]
                    congr 1
                    cases a <;> simp [h60]
                  · rw [if_neg h60]
                    congr 1
                    simp [h60]
                refine Ev.go J2' ?_
                by_cases h60 : c = 60 ∧ a = false
                · rw [if_pos h60, decide_eq_true h60]
                  refine Ev.go (fun k => by rw [haversackref10_Marks.j3, if_pos rfl, if_pos hlo0, mB_push out c 2 2 rfl, w1.e]) ?_
                  exact one q true 0 2 (by omega)
                · rw [if_neg h60, decide_eq_false h60]
                  have J3 : ∀ k, haversackref10_Marks.j3 (k + 1) (B s) (mB out) q a ((0 : Nat) : Int) (i : Int) false (c.toNat : Int) 0 = haversackref10_Marks.j4 k (B s) (mB out) q a ((0 : Nat) : Int) (i : Int) (decide (c = 62 ∧ a = true)) (c.toNat : Int) 0 := by
                    intro k
                    rw [haversackref10_Marks.j3, if_neg (by decide), if_pos g0, if_pos g, hb]
                    simp only [u62]
                    by_cases h62 : c = 62
                    · rw [if_pos h62]
                      congr 1
                      cases a <;> simp [h62]
                    · rw [if_neg h62]
                      congr 1
                      simp [h62]
                  refine Ev.go J3 ?_
                  by_cases h62 : c = 62 ∧ a = true
                  · rw [if_pos h62, decide_eq_true h62]
                    refine Ev.go (fun k => by rw [haversackref10_Marks.j4, if_pos rfl, if_pos hlo0, mB_push out c 3 3 rfl, w1.e]) ?_
                    exact one q false 0 3 (by omega)
                  · rw [if_neg h62, decide_eq_false h62]
                    have J4 : ∀ k, haversackref10_Marks.j4 (k + 1) (B s) (mB out) q a ((0 : Nat) : Int) (i : Int) false (c.toNat : Int) 0 = (if c = 44 then (if a = true then haversackref10_Marks.l0 k (B s) (mB (out ++ [(c, 0)])) q a ((0 : Nat) : Int) ((i + 1 : Nat) : Int) else haversackref10_Marks.l0 k (B s) (mB (out ++ [(c, 4)])) q a ((0 : Nat) : Int) ((i + 1 : Nat) : Int)) else haversackref10_Marks.l0 k (B s) (mB (out ++ [(c, 0)])) q a ((0 : Nat) : Int) ((i + 1 : Nat) : Int)) := by
                      intro k
                      rw [haversackref10_Marks.j4, if_neg (by decide), if_pos g0, if_pos g, hb]
                      simp only [u44, if_pos hlo0, mB_push out c 4 4 rfl, mB_push out c 0 0 rfl, w1.e]
                    by_cases h44 : c = 44 ∧ a = false
                    · rw [if_pos h44]
                      exact Ev.go (fun k => by rw [J4, if_pos h44.1, if_neg (by rw [h44.2]; decide)]) (one q a 0 4 (by omega))
                    · rw [if_neg h44]
                      by_cases h44' : c = 44
                      · have ha : a = true := by
                          cases a with
                          | true => rfl
                          | false => exact absurd ⟨h44', rfl⟩ h44
                        exact Ev.go (fun k => by rw [J4, if_pos h44', if_pos ha]) (one q a 0 0 (by omega))
                      · exact Ev.go (fun k => by rw [J4, if_neg h44']) (one q a 0 0 (by omega))
    · have g : ¬ (i : Int) < ((B s).size : Int) := by rw [bS]; omega
      rw [List.drop_eq_nil_iff.2 (by omega), mk_nil, List.append_nil]
      exact Ev.now (fun k => by rw [haversackref10_Marks.l0, if_neg g])
end
theorem marks_f_ev (s : List UInt8) (hl : s.length ≤ 1000000000) : Ev (fun k => haversackref10_Marks.f k (B s)) (mB (mkL s false false 0)) :=
  marks_ev s hl s.length 0 false false 0 [] (by omega) (by omega) (by omega) (by simp)
end Go.Proofs.YtkngjdhggcaonaaDoor.Pure
