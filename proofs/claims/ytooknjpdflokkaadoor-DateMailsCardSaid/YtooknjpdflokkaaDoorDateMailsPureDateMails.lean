/- YtooknjpdflokkaaDoorMyMailA, as far as DateMails needs it (prune.py). -/
import Derived.Test.YtooknjpdflokkaaDoorDateMailsPPx6
import Derived.Test.YtooknjpdflokkaaDoorDateMailsPPx12
import Derived.Test.YtooknjpdflokkaaDoorDateMailsPPx14
import Derived.Test.YtooknjpdflokkaaDoorDateMailsPPx16
import Derived.Test.YtooknjpdflokkaaDoorDateMailsPPx18
import Derived.Test.YtooknjpdflokkaaDoorDateMailsPPx19
import Derived.Test.YtooknjpdflokkaaDoorDateMailsPPx20
import Derived.Test.YtooknjpdflokkaaDoorDateMailsMyDateP
import Derived.Test.YtooknjpdflokkaaDoorDateMailsPPx21
import Derived.Test.YtooknjpdflokkaaDoorDateMailsPPx24
namespace Go.Proofs.YtooknjpdflokkaaDoor.Pure
open Go.RowKit Go.Proofs.YtooknjpdflokkaaDoor.PP Go.Proofs.YtooknjpdflokkaaDoor.My Go.Proofs.YtooknjpdflokkaaDoorW.PrintWords Go.Proofs.YtooknjpdflokkaaDoorW.PrintLast
set_option linter.unusedVariables false
set_option linter.unusedSimpArgs false
def nb (c : UInt8) : Bool := !isBl c
def wd (l : List UInt8) : List UInt8 := l.takeWhile nb
def rs (l : List UInt8) : List UInt8 := l.dropWhile nb
def Stp (r : List UInt8) : Prop := ∀ c q, r = c :: q → isBl c = true
def Wd (p : List UInt8) : Prop := ∀ c, c ∈ p → isBl c = false
theorem wd_rs (l : List UInt8) : wd l ++ rs l = l := List.takeWhile_append_dropWhile
theorem rs_stp (l : List UInt8) : Stp (rs l) := by
  intro c q h
  have := List.head?_dropWhile_not nb l
  unfold rs at h
  rw [h] at this
  have h1 : nb c = false := by simpa using this
  unfold nb at h1
  cases e : isBl c with
  | true => rfl
  | false => rw [e] at h1; cases h1
theorem wd_wd (l : List UInt8) : Wd (wd l) := by
  intro c h
  have := List.all_eq_true.1 (List.all_takeWhile (p := nb) (l := l)) c h
  unfold nb at this
  cases e : isBl c with
  | false => rfl
  | true => rw [e] at this; cases this
/-- A reader that does not look behind a word's end. -/
def Loc {α : Type} (N : List UInt8 → Option (α × List UInt8)) : Prop :=
  ∀ p r, Wd p → Stp r → (N (p ++ r) = (N p).map fun a => (a.1, a.2 ++ r)) ∧ ∀ a, N p = some a → Wd a.2
theorem Loc.bind {α β : Type} {N : List UInt8 → Option (α × List UInt8)} {M : α → List UInt8 → Option (β × List UInt8)} (hN : Loc N) (hM : ∀ a, Loc (M a)) : Loc (fun l => (N l).bind fun a => M a.1 a.2) := by
  intro p r hp hr
  obtain ⟨h1, h2⟩ := hN p r hp hr
  cases h : N p with
  | none => rw [h] at h1; exact ⟨by simp only [h1, h, Option.map_none, Option.bind_none], fun a e => by simp only [h, Option.bind_none] at e; cases e⟩
  | some a =>
    rw [h] at h1
    obtain ⟨g1, g2⟩ := hM a.1 a.2 r (h2 a h) hr
    exact ⟨by simp only [h1, h, Option.map_some, Option.bind_some]; exact g1, fun b e => g2 b (by simp only [h, Option.bind_some] at e; exact e)⟩
theorem dig_bl {c : UInt8} (h : isBl c = true) : isDig c = false := by
  unfold isBl at h
  simp only [List.contains_cons, List.contains_nil, Bool.or_false, Bool.or_eq_true, beq_iff_eq] at h
  rcases h with rfl | rfl | rfl | rfl <;> rfl
theorem low_bl {c : UInt8} (h : isBl c = true) : lowC c = c := by
  unfold isBl at h
  simp only [List.contains_cons, List.contains_nil, Bool.or_false, Bool.or_eq_true, beq_iff_eq] at h
  rcases h with rfl | rfl | rfl | rfl <;> rfl
theorem digs_app (p r : List UInt8) (hr : Stp r) : ∀ n, digs n (p ++ r) = digs n p := by
  induction p with
  | nil =>
    intro n
    cases r with
    | nil => rfl
    | cons c q =>
      have := dig_bl (hr c q rfl)
      cases n with
      | zero => rfl
      | succ n => simp [digs, List.take_succ_cons, List.takeWhile_cons, this]
  | cons c p ih =>
    intro n
    cases n with
    | zero => rfl
    | succ n =>
      have := ih n
      unfold digs at this ⊢
      simp only [List.cons_append, List.take_succ_cons, List.takeWhile_cons, this]
theorem wd_drop {p : List UInt8} (h : Wd p) (n : Nat) : Wd (p.drop n) := fun c hc => h c (List.mem_of_mem_drop hc)
theorem loc_number (a b : Nat) : Loc (numberL a b) := by
  intro p r hp hr
  constructor
  · unfold numberL
    rw [digs_app p r hr]
    split
    · rw [List.drop_append_of_le_length (digs_le b p).2]; rfl
    · rfl
  · intro x h
    obtain ⟨_, _, e⟩ := numberL_some (x := x.1) (l' := x.2) h
    rw [← e]; exact wd_drop hp _
theorem pre_app (t p r : List UInt8) (ht : ∀ x, x ∈ t → isBl x = false) (hr : Stp r) : t.isPrefixOf (p ++ r) = t.isPrefixOf p := by
  induction t generalizing p with
  | nil => simp [List.isPrefixOf]
  | cons x t ih =>
    cases p with
    | nil =>
      cases r with
      | nil => rfl
      | cons c q =>
        have h1 := hr c q rfl
        have h2 := ht x (by simp)
        have : (x == c) = false := by
          rw [beq_eq_false_iff_ne]
          rintro rfl
          rw [h1] at h2; cases h2
        simp [List.isPrefixOf, this]
    | cons d p => simp only [List.cons_append, List.isPrefixOf]; rw [ih p (fun y hy => ht y (by simp [hy]))]
def mustP (c : UInt8) (l : List UInt8) : Option (Unit × List UInt8) := (mustL [c] l).map fun q => ((), q)
theorem loc_must (c : UInt8) (hc : isBl c = false) : Loc (mustP c) := by
  intro p r hp hr
  unfold mustP mustL
  rw [pre_app [c] p r (by intro x hx; rw [List.mem_singleton.1 hx]; exact hc) hr]
  split
  · rename_i h
    refine ⟨?_, fun a e => ?_⟩
    · have := prefix_le h
      rw [List.drop_append_of_le_length (by simpa using this)]; rfl
    · injection e with e; rw [← e]; exact wd_drop hp _
  · exact ⟨rfl, fun a e => by cases e⟩
def nameQ (all l : List UInt8) : Option (Nat × List UInt8) := (nameL all l).map fun j => (j, l.drop 3)
theorem loc_name (all : List UInt8) (h : ∀ x, x ∈ lowL all → isBl x = false) : Loc (nameQ all) := by
  intro p r hp hr
  refine ⟨?_, fun a e => ?_⟩
  · unfold nameQ
    by_cases h3 : 3 ≤ p.length
    · have e1 : ∀ j, nameP all (p ++ r) j = nameP all p j := fun j => by
        unfold nameP
        rw [List.take_append_of_le_length h3]
      have e2 : nameL all (p ++ r) = nameL all p := by
        unfold nameL
        rw [if_pos h3, if_pos (by rw [List.length_append]; omega), show nameP all (p ++ r) = nameP all p from funext e1]
      rw [e2, List.drop_append_of_le_length h3]
      cases nameL all p <;> rfl
    · have e1 : nameL all p = none := by unfold nameL; rw [if_neg h3]
      have e2 : nameL all (p ++ r) = none := by
        refine nameL_none rfl (fun j hj => ?_)
        cases r with
        | nil =>
          unfold nameP
          rw [beq_eq_false_iff_ne]
          intro e
          have := congrArg List.length e
          simp only [lowL, List.length_map, List.append_nil, List.length_take, List.length_drop] at this
          omega
        | cons c q =>
          have hb := hr c q rfl
          cases e : nameP all (p ++ c :: q) j with
          | false => rfl
          | true =>
            unfold nameP at e
            rw [beq_iff_eq] at e
            have hm : c ∈ lowL ((p ++ c :: q).take 3) := by
              unfold lowL
              rw [List.mem_map]
              refine ⟨c, ?_, low_bl hb⟩
              rw [List.take_append]
              obtain ⟨m, hm⟩ : ∃ m, 3 - p.length = m + 1 := ⟨2 - p.length, by omega⟩
              rw [hm]
              simp
            rw [e] at hm
            have : c ∈ lowL all := by
              unfold lowL at hm ⊢
              rw [List.mem_map] at hm ⊢
              obtain ⟨x, hx, ex⟩ := hm
              exact ⟨x, List.mem_of_mem_drop (List.mem_of_mem_take hx), ex⟩
            rw [h c this] at hb; cases hb
      rw [e1, e2]; rfl
  · unfold nameQ at e
    cases hn : nameL all p with
    | none => rw [hn] at e; cases e
    | some j => rw [hn] at e; injection e with e; rw [← e]; exact wd_drop hp _
theorem loc_map {α β : Type} {N : List UInt8 → Option (α × List UInt8)} (hN : Loc N) (f : α → β) : Loc (fun l => (N l).map fun a => (f a.1, a.2)) := by
  intro p r hp hr
  obtain ⟨h1, h2⟩ := hN p r hp hr
  cases h : N p with
  | none => rw [h] at h1; exact ⟨by simp only [h1, h]; rfl, fun a e => by simp only [h] at e; cases e⟩
  | some a => rw [h] at h1; exact ⟨by simp only [h1, h]; rfl, fun b e => by simp only [h, Option.map_some, Option.some.injEq] at e; rw [← e]; exact h2 a h⟩
theorem month_q (l : List UInt8) : monthM l = (nameQ monthsL l).map fun a => ((a.1 : Int) + 1, a.2) := by
  unfold monthM nameQ
  cases nameL monthsL l <;> rfl
theorem loc_month : Loc monthM := by
  have := loc_map (loc_name monthsL (by decide)) (fun j => (j : Int) + 1)
  have e : monthM = fun l => (nameQ monthsL l).map fun a => ((a.1 : Int) + 1, a.2) := funext month_q
  rw [e]; exact this
theorem loc_some {α : Type} (x : α) : Loc (fun l => some (x, l)) := fun p r hp hr => ⟨rfl, fun a e => by injection e with e; rw [← e]; exact hp⟩
theorem loc_none {α : Type} : Loc (fun _ => (none : Option (α × List UInt8))) := fun p r hp hr => ⟨rfl, fun a e => by cases e⟩
theorem loc_zone : Loc zoneL := by
  intro p r hp hr
  cases p with
  | nil =>
    cases r with
    | nil => exact ⟨rfl, fun a e => by cases e⟩
    | cons c q =>
      have hb := hr c q rfl
      refine ⟨?_, fun a e => by cases e⟩
      show zoneL (c :: q) = none
      simp only [zoneL]
      rw [if_neg]
      rintro (rfl | rfl) <;> revert hb <;> decide
  | cons c p =>
    have hp' : Wd p := fun x hx => hp x (by simp [hx])
    by_cases hc : c = 45 ∨ c = 43
    · have L : Loc (fun l => (numberL 2 2 l).bind fun h => (numberL 2 2 h.2).bind fun m => if h.1 > 23 ∨ m.1 > 59 then none else some ((if c = 45 then -1 else 1) * (60 * h.1 + m.1), m.2)) := by
        refine Loc.bind (M := fun h l => (numberL 2 2 l).bind fun m => if h > 23 ∨ m.1 > 59 then none else some ((if c = 45 then -1 else 1) * (60 * h + m.1), m.2)) (loc_number 2 2) (fun h => ?_)
        refine Loc.bind (M := fun m l => if h > 23 ∨ m > 59 then none else some ((if c = 45 then -1 else 1) * (60 * h + m), l)) (loc_number 2 2) (fun m => ?_)
        by_cases hb : h > 23 ∨ m > 59
        · simp only [if_pos hb]; exact loc_none
        · simp only [if_neg hb]; exact loc_some _
      have := L p r hp' hr
      simp only [zoneL, List.cons_append, if_pos hc]
      exact this
    · simp only [zoneL, List.cons_append, if_neg hc]
      exact ⟨rfl, fun a e => by cases e⟩
theorem stp_low {r : List UInt8} (hr : Stp r) : Stp (lowL r) := by
  intro c q h
  cases r with
  | nil => cases h
  | cons d s =>
    have hb := hr d s rfl
    have e := low_bl hb
    have h' : lowC d :: s.map lowC = c :: q := h
    injection h' with h1 h2
    rw [← h1, e]; exact hb
theorem loc_mailZ : Loc mailZ := by
  intro p r hp hr
  have hl : lowL (p ++ r) = lowL p ++ lowL r := List.map_append
  obtain ⟨z1, z2⟩ := loc_zone p r hp hr
  have hlen : (lowL p).length = p.length := List.length_map _
  unfold mailZ
  rw [hl, pre_app _ _ _ (by decide) (stp_low hr), pre_app _ _ _ (by decide) (stp_low hr)]
  by_cases h1 : [103, 109, 116].isPrefixOf (lowL p) = true
  · rw [if_pos h1, if_pos h1]
    have := prefix_le h1
    rw [hlen] at this
    refine ⟨?_, fun a e => ?_⟩
    · rw [List.drop_append_of_le_length (by simpa using this)]; rfl
    · injection e with e; rw [← e]; exact wd_drop hp _
  · rw [if_neg h1, if_neg h1]
    by_cases h2 : [117, 116].isPrefixOf (lowL p) = true
    · rw [if_pos h2, if_pos h2]
      have := prefix_le h2
      rw [hlen] at this
      refine ⟨?_, fun a e => ?_⟩
      · rw [List.drop_append_of_le_length (by simpa using this)]; rfl
      · injection e with e; rw [← e]; exact wd_drop hp _
    · rw [if_neg h2, if_neg h2]
      exact ⟨z1, z2⟩
theorem loc_mailS : Loc mailS := by
  intro p r hp hr
  unfold mailS
  rw [pre_app _ _ _ (by decide) hr]
  by_cases h1 : [58].isPrefixOf p = true
  · rw [if_pos h1, if_pos h1]
    have := (Loc.bind (M := fun _ l => numberL 2 2 l) (loc_must 58 (by decide)) (fun _ => loc_number 2 2)) p r hp hr
    unfold mustP at this
    simp only [Option.bind_map, Function.comp_def] at this
    exact this
  · rw [if_neg h1, if_neg h1]
    exact loc_some (0 : Int) p r hp hr
/-- A clock's reader. -/
def clockN (l : List UInt8) : Option ((Int × Int × Int) × List UInt8) :=
  (numberL 2 2 l).bind fun h => (mustL [58] h.2).bind fun l8 => (numberL 2 2 l8).bind fun mi => (mailS mi.2).bind fun s => some ((h.1, mi.1, s.1), s.2)
theorem loc_clock : Loc clockN := by
  have L : Loc (fun l => (numberL 2 2 l).bind fun h => (mustP 58 h.2).bind fun u => (numberL 2 2 u.2).bind fun mi => (mailS mi.2).bind fun s => some ((h.1, mi.1, s.1), s.2)) :=
    Loc.bind (M := fun h l => (mustP 58 l).bind fun u => (numberL 2 2 u.2).bind fun mi => (mailS mi.2).bind fun s => some ((h, mi.1, s.1), s.2)) (loc_number 2 2) fun h =>
    Loc.bind (M := fun _ l => (numberL 2 2 l).bind fun mi => (mailS mi.2).bind fun s => some ((h, mi.1, s.1), s.2)) (loc_must 58 (by decide)) fun _ =>
    Loc.bind (M := fun mi l => (mailS l).bind fun s => some ((h, mi, s.1), s.2)) (loc_number 2 2) fun mi =>
    Loc.bind (M := fun s l => some ((h, mi, s), l)) loc_mailS fun s => loc_some _
  unfold mustP at L
  simp only [Option.bind_map, Function.comp_def] at L
  exact L
theorem loc_week : Loc (fun l => (nameQ weekdaysL l).bind fun a => mustP 44 a.2) :=
  Loc.bind (M := fun _ l => mustP 44 l) (loc_name weekdaysL (by decide)) fun _ => loc_must 44 (by decide)
theorem blanks_nil {r : List UInt8} (c : UInt8) (h : isBl c = false) : blanksL (c :: r) = c :: r := by
  unfold blanksL; rw [List.dropWhile_cons_of_neg (by rw [h]; decide)]
theorem gap_rs {r : List UInt8} (h : Stp r) : gapL r = if r = [] then none else some (blanksL r) := by
  cases r with
  | nil => rfl
  | cons c q =>
    have hb := h c q rfl
    have e : blanksL (c :: q) = blanksL q := by unfold blanksL; rw [List.dropWhile_cons_of_pos hb]
    unfold gapL
    have hlt : (blanksL (c :: q)).length < (c :: q).length := by rw [e]; have := blanks_le q; simp; omega
    rw [if_pos hlt, if_neg (by simp)]
theorem step {α β : Type} {N : List UInt8 → Option (α × List UInt8)} (hN : Loc N) (K : α → List UInt8 → Option β) (l : List UInt8) :
    ((N l).bind fun a => (gapL a.2).bind fun l' => K a.1 l') = (N (wd l)).bind fun a => if a.2 = [] then (if rs l = [] then none else K a.1 (blanksL (rs l))) else none := by
  obtain ⟨h1, h2⟩ := hN (wd l) (rs l) (wd_wd l) (rs_stp l)
  rw [wd_rs] at h1
  rw [h1]
  cases h : N (wd l) with
  | none => rfl
  | some a =>
    obtain ⟨x, q⟩ := a
    simp only [Option.map_some, Option.bind_some]
    cases q with
    | nil =>
      rw [if_pos rfl, List.nil_append, gap_rs (rs_stp l)]
      split <;> rfl
    | cons c q =>
      have hb := h2 _ h c (by simp)
      rw [if_neg (by simp)]
      unfold gapL
      rw [List.cons_append, blanks_nil c hb, if_neg (by omega)]
      rfl
theorem stepE {α β : Type} {N : List UInt8 → Option (α × List UInt8)} (hN : Loc N) (K : α → Option β) (l : List UInt8) :
    ((N l).bind fun a => (if blanksL a.2 = [] then some () else none).bind fun _ => K a.1) = (N (wd l)).bind fun a => if a.2 = [] then (if blanksL (rs l) = [] then K a.1 else none) else none := by
  obtain ⟨h1, h2⟩ := hN (wd l) (rs l) (wd_wd l) (rs_stp l)
  rw [wd_rs] at h1
  rw [h1]
  cases h : N (wd l) with
  | none => rfl
  | some a =>
    obtain ⟨x, q⟩ := a
    simp only [Option.map_some, Option.bind_some]
    cases q with
    | nil =>
      rw [if_pos rfl, List.nil_append]
      split <;> rfl
    | cons c q =>
      have hb := h2 _ h c (by simp)
      rw [List.cons_append, blanks_nil c hb, if_neg (by simp), if_neg (by simp)]
      rfl
/-- The words of a text. -/
def pcs : Option (List UInt8) → List UInt8 → List (List UInt8)
  | none, [] => []
  | some c, [] => [c]
  | none, b :: r => if isBl b then pcs none r else pcs (some [b]) r
  | some c, b :: r => if isBl b then c :: pcs none r else pcs (some (c ++ [b])) r
theorem pcs_some (l : List UInt8) : ∀ c, pcs (some c) l = (c ++ wd l) :: pcs none (rs l) := by
  induction l with
  | nil => intro c; simp [pcs, wd, rs]
  | cons b r ih =>
    intro c
    simp only [pcs]
    cases hb : isBl b with
    | true =>
      have e1 : wd (b :: r) = [] := by unfold wd nb; rw [List.takeWhile_cons_of_neg (by rw [hb]; decide)]
      have e2 : rs (b :: r) = b :: r := by unfold rs nb; rw [List.dropWhile_cons_of_neg (by rw [hb]; decide)]
      rw [e1, e2, if_pos rfl, List.append_nil]
      simp only [pcs]
      rw [if_pos hb]
    | false =>
      have e1 : wd (b :: r) = b :: wd r := by unfold wd nb; rw [List.takeWhile_cons_of_pos (by rw [hb]; decide)]
      have e2 : rs (b :: r) = rs r := by unfold rs nb; rw [List.dropWhile_cons_of_pos (by rw [hb]; decide)]
      rw [e1, e2, if_neg (by decide), ih]
      simp
theorem pcs_blanks (l : List UInt8) : pcs none l = pcs none (blanksL l) := by
  induction l with
  | nil => rfl
  | cons b r ih =>
    cases hb : isBl b with
    | true =>
      have e : blanksL (b :: r) = blanksL r := by unfold blanksL; rw [List.dropWhile_cons_of_pos hb]
      rw [e, ← ih]
      simp only [pcs]
      rw [if_pos hb]
    | false => rw [blanks_nil b hb]
/-- A text that begins with no blank. -/
def Beg (l : List UInt8) : Prop := ∀ c q, l = c :: q → isBl c = false
theorem beg_blanks (l : List UInt8) : Beg (blanksL l) := by
  intro c q h
  have := List.head?_dropWhile_not isBl l
  unfold blanksL at h
  rw [h] at this
  simpa using this
theorem pcs_beg {l : List UInt8} (h : Beg l) : pcs none l = if l = [] then [] else wd l :: pcs none (blanksL (rs l)) := by
  cases l with
  | nil => rfl
  | cons b r =>
    have hb := h b r rfl
    have e1 : wd (b :: r) = b :: wd r := by unfold wd nb; rw [List.takeWhile_cons_of_pos (by rw [hb]; decide)]
    have e2 : rs (b :: r) = rs r := by unfold rs nb; rw [List.dropWhile_cons_of_pos (by rw [hb]; decide)]
    rw [if_neg (by simp), e1, e2]
    simp only [pcs]
    rw [hb, if_neg (by decide), pcs_some, pcs_blanks (rs r)]
    rfl
theorem pcs_nil {l : List UInt8} (h : Beg l) : pcs none l = [] ↔ l = [] := by
  rw [pcs_beg h]
  split <;> simp_all
theorem pcs_ok (l : List UInt8) : ∀ p, p ∈ pcs none l → p ≠ [] ∧ Wd p ∧ p.length ≤ l.length := by
  have key : ∀ (l : List UInt8), (∀ p, p ∈ pcs none l → p ≠ [] ∧ Wd p ∧ p.length ≤ l.length) ∧ ∀ c, c ≠ [] → Wd c → ∀ p, p ∈ pcs (some c) l → p ≠ [] ∧ Wd p ∧ p.length ≤ c.length + l.length := by
    intro l
    induction l with
    | nil => exact ⟨fun p hp => (by cases hp), fun c h1 h2 p hp => (by rw [List.mem_singleton.1 hp]; exact ⟨h1, h2, by simp⟩)⟩
    | cons b r ih =>
      refine ⟨fun p hp => ?_, fun c h1 h2 p hp => ?_⟩
      · simp only [pcs] at hp
        split at hp
        · have := ih.1 p hp; exact ⟨this.1, this.2.1, by simp; omega⟩
        · rename_i hb
          have := ih.2 [b] (by simp) (by intro x hx; rw [List.mem_singleton.1 hx]; simpa using hb) p hp
          exact ⟨this.1, this.2.1, by have := this.2.2; simp at this ⊢; omega⟩
      · simp only [pcs] at hp
        split at hp
        · rcases List.mem_cons.1 hp with rfl | hp
          · exact ⟨h1, h2, by simp⟩
          · have := ih.1 p hp; exact ⟨this.1, this.2.1, by simp; omega⟩
        · rename_i hb
          have := ih.2 (c ++ [b]) (by simp) (by intro x hx; rcases List.mem_append.1 hx with hx | hx; exact h2 x hx; rw [List.mem_singleton.1 hx]; simpa using hb) p hp
          exact ⟨this.1, this.2.1, by have := this.2.2; simp at this ⊢; omega⟩
  exact (key l).1
/-- What a word is to a reader: all of it, or nothing. -/
def all? {α : Type} (N : List UInt8 → Option (α × List UInt8)) (p : List UInt8) : Option α := (N p).bind fun a => if a.2 = [] then some a.1 else none
theorem step' {α β : Type} {N : List UInt8 → Option (α × List UInt8)} (hN : Loc N) (h0 : N [] = none) (K : α → List UInt8 → Option β) {l : List UInt8} (hb : Beg l) (hK : ∀ x, K x [] = none) :
    ((N l).bind fun a => (gapL a.2).bind fun l' => K a.1 l') = if l = [] then none else (all? N (wd l)).bind fun x => K x (blanksL (rs l)) := by
  by_cases hl : l = []
  · subst hl; rw [if_pos rfl, h0]; rfl
  · rw [if_neg hl, step hN]
    unfold all?
    cases N (wd l) with
    | none => rfl
    | some a =>
      simp only [Option.bind_some]
      by_cases ha : a.2 = []
      · rw [if_pos ha, if_pos ha, Option.bind_some]
        by_cases hr : rs l = []
        · rw [if_pos hr, hr]; exact (hK _).symm
        · rw [if_neg hr]
      · rw [if_neg ha, if_neg ha]; rfl
/-- A date of five words. -/
def five (p : List (List UInt8)) : Option D7 :=
  match p with
  | [d, m, y, c, z] => (all? (numberL 1 2) d).bind fun d => (all? monthM m).bind fun m => (all? (numberL 4 4) y).bind fun y => (all? clockN c).bind fun c => (all? mailZ z).bind fun z => some (y, m, d, c.1, c.2.1, c.2.2, z)
  | _ => none
def t5 (d m y : Int) (c : Int × Int × Int) (l : List UInt8) : Option D7 := (mailZ l).bind fun z => (if blanksL z.2 = [] then some () else none).bind fun _ => some (y, m, d, c.1, c.2.1, c.2.2, z.1)
def t4 (d m y : Int) (l : List UInt8) : Option D7 := (clockN l).bind fun a => (gapL a.2).bind fun l' => t5 d m y a.1 l'
def t3 (d m : Int) (l : List UInt8) : Option D7 := (numberL 4 4 l).bind fun a => (gapL a.2).bind fun l' => t4 d m a.1 l'
def t2 (d : Int) (l : List UInt8) : Option D7 := (monthM l).bind fun a => (gapL a.2).bind fun l' => t3 d a.1 l'
theorem mailT_is (l : List UInt8) : mailT l = (numberL 1 2 l).bind fun a => (gapL a.2).bind fun l' => t2 a.1 l' := by
  unfold mailT t2 t3 t4 t5 clockN
  simp only [Option.bind_assoc, Option.bind_some]
theorem t5_pcs (d m y : Int) (c : Int × Int × Int) {l : List UInt8} (hb : Beg l) : t5 d m y c l = match pcs none l with | [z] => (all? mailZ z).bind fun z => some (y, m, d, c.1, c.2.1, c.2.2, z) | _ => none := by
  rw [pcs_beg hb]
  unfold t5
  rw [stepE loc_mailZ (fun z => some (y, m, d, c.1, c.2.1, c.2.2, z))]
  by_cases hl : l = []
  · subst hl; rw [if_pos rfl]; rfl
  · rw [if_neg hl]
    have hn := pcs_nil (beg_blanks (rs l))
    unfold all?
    by_cases hr : blanksL (rs l) = []
    · rw [hr]
      simp only [pcs, if_true]
      cases mailZ (wd l) with
      | none => rfl
      | some a => simp only [Option.bind_some]; split <;> rfl
    · cases hp : pcs none (blanksL (rs l)) with
      | nil => exact absurd (hn.1 hp) hr
      | cons a b =>
        simp only [if_neg hr]
        cases mailZ (wd l) with
        | none => rfl
        | some a => simp only [Option.bind_some]; split <;> rfl
theorem t4_pcs (d m y : Int) {l : List UInt8} (hb : Beg l) : t4 d m y l = match pcs none l with | [c, z] => (all? clockN c).bind fun c => (all? mailZ z).bind fun z => some (y, m, d, c.1, c.2.1, c.2.2, z) | _ => none := by
  rw [pcs_beg hb]
  unfold t4
  rw [step' loc_clock rfl (t5 d m y) hb (fun _ => rfl)]
  by_cases hl : l = []
  · rw [if_pos hl, if_pos hl]
  · rw [if_neg hl, if_neg hl]
    simp only [t5_pcs d m y _ (beg_blanks (rs l))]
    rcases pcs none (blanksL (rs l)) with _ | ⟨a, _ | ⟨b, c⟩⟩
    · simp
    · rfl
    · simp
theorem t3_pcs (d m : Int) {l : List UInt8} (hb : Beg l) : t3 d m l = match pcs none l with | [y, c, z] => (all? (numberL 4 4) y).bind fun y => (all? clockN c).bind fun c => (all? mailZ z).bind fun z => some (y, m, d, c.1, c.2.1, c.2.2, z) | _ => none := by
  rw [pcs_beg hb]
  unfold t3
  rw [step' (loc_number 4 4) rfl (t4 d m) hb (fun _ => rfl)]
  by_cases hl : l = []
  · rw [if_pos hl, if_pos hl]
  · rw [if_neg hl, if_neg hl]
    simp only [t4_pcs d m _ (beg_blanks (rs l))]
    rcases pcs none (blanksL (rs l)) with _ | ⟨a, _ | ⟨b, _ | ⟨c, e⟩⟩⟩
    · simp
    · simp
    · rfl
    · simp
theorem t2_pcs (d : Int) {l : List UInt8} (hb : Beg l) : t2 d l = match pcs none l with | [m, y, c, z] => (all? monthM m).bind fun m => (all? (numberL 4 4) y).bind fun y => (all? clockN c).bind fun c => (all? mailZ z).bind fun z => some (y, m, d, c.1, c.2.1, c.2.2, z) | _ => none := by
  rw [pcs_beg hb]
  unfold t2
  rw [step' loc_month rfl (t3 d) hb (fun _ => rfl)]
  by_cases hl : l = []
  · rw [if_pos hl, if_pos hl]
  · rw [if_neg hl, if_neg hl]
    simp only [t3_pcs d _ (beg_blanks (rs l))]
    rcases pcs none (blanksL (rs l)) with _ | ⟨a, _ | ⟨b, _ | ⟨c, _ | ⟨e, f⟩⟩⟩⟩
    · simp
    · simp
    · simp
    · rfl
    · simp
theorem mailT_pcs {l : List UInt8} (hb : Beg l) : mailT l = five (pcs none l) := by
  rw [pcs_beg hb, mailT_is, step' (loc_number 1 2) rfl t2 hb (fun _ => rfl)]
  by_cases hl : l = []
  · rw [if_pos hl, if_pos hl]; rfl
  · rw [if_neg hl, if_neg hl]
    simp only [t2_pcs _ (beg_blanks (rs l))]
    unfold five
    rcases pcs none (blanksL (rs l)) with _ | ⟨a, _ | ⟨b, _ | ⟨c, _ | ⟨e, _ | ⟨f, g⟩⟩⟩⟩⟩
    · simp
    · simp
    · simp
    · simp
    · rfl
    · simp
/-- A word that is a weekday's name and a comma. -/
def weekW (p : List UInt8) : Bool := (nameL weekdaysL p).isSome
def mailW (p : List (List UInt8)) : Option D7 :=
  match p with
  | [] => none
  | w :: ps => if weekW w then (if w.drop 3 = [44] then five ps else none) else five (w :: ps)
theorem mailL_pcs (l : List UInt8) : mailL l = mailW (pcs none l) := by
  rw [pcs_blanks]
  have hb := beg_blanks l
  unfold mailL
  generalize blanksL l = m at hb ⊢
  by_cases hl : m = []
  · subst hl; rfl
  · have e := pcs_beg hb
    rw [if_neg hl] at e
    obtain ⟨n1, n2⟩ := loc_name weekdaysL (by decide) (wd m) (rs m) (wd_wd m) (rs_stp m)
    rw [wd_rs] at n1
    unfold nameQ at n1
    cases hn : nameL weekdaysL m with
    | none =>
      rw [hn] at n1
      have : nameL weekdaysL (wd m) = none := by
        cases h : nameL weekdaysL (wd m) with
        | none => rfl
        | some j => rw [h] at n1; cases n1
      rw [e]
      simp only [mailW, weekW, this, Option.isSome_none, Bool.false_eq_true, if_false]
      rw [← e, mailT_pcs hb]
    | some j =>
      rw [hn] at n1
      have hj : nameL weekdaysL (wd m) = some j := by
        cases h : nameL weekdaysL (wd m) with
        | none => rw [h] at n1; cases n1
        | some j' => rw [h] at n1; simp only [Option.map_some, Option.some.injEq, Prod.mk.injEq] at n1; rw [n1.1]
      have s := step' loc_week (by rfl) (fun _ l => mailT l) hb (fun _ => rfl)
      rw [if_neg hl] at s
      unfold nameQ mustP at s
      rw [hn] at s
      simp only [Option.map_some, Option.bind_some, Option.bind_map, Function.comp_def] at s
      rw [e]
      simp only [mailW, weekW, hj, Option.isSome_some, if_true]
      rw [← mailT_pcs (beg_blanks (rs m))]
      refine Eq.trans ?_ (s.trans ?_)
      · rfl
      · unfold all?
        simp only [hj, Option.map_some, Option.bind_some]
        unfold mustL
        generalize wd m = p
        by_cases hp : [44].isPrefixOf (p.drop 3) = true
        · rw [if_pos hp]
          simp only [Option.map_some, Option.bind_some]
          rw [List.isPrefixOf_iff_prefix] at hp
          obtain ⟨t, ht⟩ := hp
          rw [← ht]
          cases t with
          | nil => simp
          | cons a b => simp
        · rw [if_neg hp, if_neg (fun e => hp (by rw [e]; rfl))]
          rfl
end Go.Proofs.YtooknjpdflokkaaDoor.Pure

/- YtooknjpdflokkaaDoorMyMailB, as far as DateMails needs it (prune.py). -/
namespace Go.Proofs.YtooknjpdflokkaaDoor.Pure
open Go.RowKit Go.Proofs.YtooknjpdflokkaaDoor.PP Go.Proofs.YtooknjpdflokkaaDoor.My Go.Proofs.YtooknjpdflokkaaDoorW.PrintWords Go.Proofs.YtooknjpdflokkaaDoorW.PrintLast
set_option linter.unusedVariables false
set_option linter.unusedSimpArgs false
theorem bt_mid (pre r : List UInt8) (c : UInt8) : bt ⟨(pre ++ c :: r).toArray⟩ (pre.length : Int) = (c.toNat : Int) := by
  have := btl (pre ++ c :: r) (pre.length : Int) (by omega) (by simp; omega)
  rw [this]
  congr 2
  simp
def numV (p : List UInt8) : Int := if p.all isDig = true ∧ p ≠ [] then valL p else -1
theorem rnum_l (r : List UInt8) : ∀ (pre : List UInt8) (k : Nat), r.length + 2 ≤ k → pre.all isDig = true → (pre ++ r).length ≤ 9 → haversackref09_Number.l0 k ⟨(pre ++ r).toArray⟩ (valL pre) (pre.length : Int) = some (numV (pre ++ r)) := by
  induction r with
  | nil =>
    intro pre k hk hp hl
    obtain ⟨k, rfl⟩ : ∃ n, k = n + 1 := ⟨k - 1, by omega⟩
    rw [List.append_nil] at hl ⊢
    unfold numV
    simp only [haversackref09_Number.l0, ba_size]
    rw [if_neg (by omega)]
    by_cases h0 : pre = []
    · subst h0; rfl
    · have : pre.length ≠ 0 := fun e => h0 (List.length_eq_zero_iff.1 e)
      rw [if_neg (by omega), if_neg (by omega), if_pos ⟨hp, h0⟩]
  | cons c r ih =>
    intro pre k hk hp hl
    simp only [List.length_cons] at hk
    obtain ⟨k, rfl⟩ : ∃ n, k = n + 1 := ⟨k - 1, by omega⟩
    have hl2 : (pre ++ c :: r).length = pre.length + r.length + 1 := by simp; omega
    have hb := valL_bd pre (fun d hd => List.all_eq_true.1 hp d hd)
    have hpw : (10 : Int) ^ pre.length ≤ 10 ^ 9 := by exact_mod_cast Nat.pow_le_pow_right (by omega) (by omega)
    have hb1 := hb.1
    have hb2 : valL pre < 1000000000 := by have := hb.2; omega
    simp only [haversackref09_Number.l0, ba_size, hl2]
    rw [if_pos (by omega), if_pos (by omega), bt_mid]
    have hc : (c.toNat : Int) < 256 := by have := c.toNat_lt; omega
    cases hd : isDig c with
    | true =>
      have h1 := dig_bt hd
      rw [if_neg h1.1, if_neg h1.2, w64 (x := (c.toNat : Int)) (by omega), w64 (x := 10 * valL pre) (by omega), w64 (x := 10 * valL pre + (c.toNat : Int)) (by omega), w64 (x := 10 * valL pre + (c.toNat : Int) - 48) (by omega), w64 (x := (pre.length : Int) + 1) (by omega)]
      have := ih (pre ++ [c]) k (by omega) (by rw [List.all_append, hp]; simp [hd]) (by simp at hl ⊢; omega)
      rw [valL_snoc, List.append_assoc, List.length_append] at this
      have e1 : 10 * valL pre + ((c.toNat : Int) - 48) = 10 * valL pre + (c.toNat : Int) - 48 := by omega
      have e2 : ((pre.length + [c].length : Nat) : Int) = (pre.length : Int) + 1 := by simp
      rw [e1, e2] at this
      exact this
    | false =>
      have hv : numV (pre ++ c :: r) = -1 := by
        unfold numV; rw [if_neg]; rintro ⟨h, _⟩
        rw [List.all_append, List.all_cons, hd] at h
        simp at h
      rw [hv]
      unfold isDig at hd
      simp only [Bool.and_eq_false_iff, decide_eq_false_iff_not, UInt8.le_iff_toNat_le] at hd
      have e1 : (48 : UInt8).toNat = 48 := rfl
      have e2 : (57 : UInt8).toNat = 57 := rfl
      by_cases h1 : (c.toNat : Int) < 48
      · rw [if_pos h1]
      · rw [if_neg h1, if_pos (by omega)]
theorem rnum {k : Nat} (hk : 20 ≤ k) (p : List UInt8) (hp : p.length ≤ 9) : haversackref09_Number.f k ⟨p.toArray⟩ = some (numV p) := rnum_l p [] k (by omega) rfl (by simpa using hp)
theorem tw_all {α : Type} (f : α → Bool) (l : List α) (h : l.all f = true) : l.takeWhile f = l := by
  induction l with
  | nil => rfl
  | cons a l ih =>
    simp only [List.all_cons, Bool.and_eq_true] at h
    rw [List.takeWhile_cons_of_pos h.1, ih h.2]
theorem find_any {α : Type} (f : α → Bool) (l : List α) : (l.find? f).isSome = l.any f := by
  induction l with
  | nil => rfl
  | cons a l ih =>
    rw [List.find?_cons, List.any_cons]
    cases h : f a with
    | true => rfl
    | false => simpa using ih
theorem all_number (a b : Nat) (p : List UInt8) : all? (numberL a b) p = if a ≤ p.length ∧ p.length ≤ b ∧ p.all isDig = true then some (valL p) else none := by
  unfold all? numberL
  by_cases h : p.length ≤ b ∧ p.all isDig = true
  · have e : digs b p = p := by
      unfold digs
      rw [List.take_of_length_le h.1]
      exact tw_all _ _ h.2
    rw [e]
    by_cases ha : a ≤ p.length
    · rw [if_pos ha, if_pos ⟨ha, h⟩]; simp
    · rw [if_neg ha, if_neg (fun x => ha x.1)]; rfl
  · have hn : ¬ (a ≤ p.length ∧ p.length ≤ b ∧ p.all isDig = true) := fun x => h x.2
    rw [if_neg hn]
    split
    · simp only [Option.bind_some]
      rw [if_neg]
      intro e
      have h1 : p.length ≤ (digs b p).length := List.drop_eq_nil_iff.1 e
      have h2 := (digs_le b p).1
      refine h ⟨by omega, ?_⟩
      have h3 := digs_take b p
      rw [List.take_of_length_le h1] at h3
      rw [← h3]
      exact List.all_takeWhile
    · rfl
/-- A month's name. -/
def monV (p : List UInt8) : Int := match all? monthM p with | some m => m | none => 0
theorem all_month (p : List UInt8) : all? monthM p = if p.length = 3 then ((List.range 12).find? (nameP monthsL p)).map (fun j : Nat => (j : Int) + 1) else none := by
  unfold all? monthM nameL
  have e12 : monthsL.length / 3 = 12 := rfl
  rw [e12]
  by_cases h : p.length = 3
  · rw [if_pos (by omega), if_pos h]
    have : p.drop 3 = [] := List.drop_eq_nil_iff.2 (by omega)
    rw [this]
    cases List.find? (nameP monthsL p) (List.range 12) <;> rfl
  · rw [if_neg h]
    by_cases h3 : 3 ≤ p.length
    · rw [if_pos h3]
      have : p.drop 3 ≠ [] := fun e => by have := List.drop_eq_nil_iff.1 e; omega
      cases List.find? (nameP monthsL p) (List.range 12) with
      | none => rfl
      | some j => simp [this]
    · rw [if_neg h3]; rfl
theorem rmonth_l (p : List UInt8) (hp : p.length ≤ 2000) : ∀ (t s k : Nat), t + 2 ≤ k → s + t = 12 → haversackref09_Month.l0 k ⟨p.toArray⟩ ((s : Int) + 1) = some (if p.length = 3 then (match (List.range' s t).find? (nameP monthsL p) with | some j => (j : Int) + 1 | none => 0) else 0) := by
  intro t
  induction t with
  | zero =>
    intro s k hk hs
    obtain ⟨k, rfl⟩ : ∃ n, k = n + 1 := ⟨k - 1, by omega⟩
    simp only [haversackref09_Month.l0]
    rw [if_neg (by omega)]
    split <;> rfl
  | succ t ih =>
    intro s k hk hs
    obtain ⟨k, rfl⟩ : ∃ n, k = n + 1 := ⟨k - 1, by omega⟩
    obtain ⟨a, b, c, em, _, e⟩ := mon_cut (m := (s : Int) + 1) (by omega) (by omega)
    simp only [haversackref09_Month.l0]
    rw [if_pos (by omega), e]
    simp only [Option.bind_some]
    rw [lower_some [a, b, c] (by simp), lower_some p (by omega)]
    simp only [Option.bind_some, ba_toList]
    have em2 : (monthsL.drop (3 * s)).take 3 = [a, b, c] := by
      unfold mon at em
      have : (3 * ((s : Int) + 1 - 1)).toNat = 3 * s := by omega
      rw [this] at em
      exact em
    have hP : p.length = 3 → nameP monthsL p s = decide (lowL [a, b, c] = lowL p) := fun h3 => by
      unfold nameP
      rw [em2, List.take_of_length_le (by omega), Bool.beq_eq_decide_eq]
      exact decide_eq_decide.2 eq_comm
    rw [List.range'_succ, List.find?_cons]
    by_cases hc : lowL [a, b, c] = lowL p
    · rw [if_pos hc]
      have h3 : p.length = 3 := by have := congrArg List.length hc; simp [lowL] at this; omega
      rw [if_pos h3, hP h3, decide_eq_true hc]
    · rw [if_neg hc, w64 (by omega)]
      have := ih (s + 1) k (by omega) (by omega)
      have e1 : (((s + 1 : Nat) : Int)) + 1 = (s : Int) + 1 + 1 := by omega
      rw [e1] at this
      rw [this]
      by_cases h3 : p.length = 3
      · rw [if_pos h3, if_pos h3, hP h3, decide_eq_false hc]
      · rw [if_neg h3, if_neg h3]
theorem rmonth {k : Nat} (hk : 20 ≤ k) (p : List UInt8) (hp : p.length ≤ 2000) : haversackref09_Month.f k ⟨p.toArray⟩ = some (monV p) := by
  have := rmonth_l p hp 12 0 k (by omega) (by omega)
  unfold haversackref09_Month.f
  have e : ((0 : Nat) : Int) + 1 = 1 := rfl
  rw [e] at this
  rw [this]
  unfold monV
  rw [all_month, List.range_eq_range']
  by_cases h3 : p.length = 3
  · rw [if_pos h3, if_pos h3]
    cases List.find? (nameP monthsL p) (List.range' 0 12) <;> rfl
  · rw [if_neg h3, if_neg h3]
theorem monV_bd (p : List UInt8) : (∃ m, all? monthM p = some m ∧ monV p = m) ∨ (all? monthM p = none ∧ monV p = 0) := by
  unfold monV
  cases all? monthM p with
  | none => exact .inr ⟨rfl, rfl⟩
  | some m => exact .inl ⟨m, rfl, rfl⟩
theorem lowC_44 (d : UInt8) : lowC d = 44 ↔ d = 44 := by
  unfold lowC
  split
  · rename_i h
    simp only [UInt8.le_iff_toNat_le] at h
    have e1 : (65 : UInt8).toNat = 65 := rfl
    have e2 : (90 : UInt8).toNat = 90 := rfl
    have e3 : (44 : UInt8).toNat = 44 := rfl
    constructor
    · intro e
      have := congrArg UInt8.toNat e
      rw [UInt8.toNat_add, e3] at this
      have e4 : (32 : UInt8).toNat = 32 := rfl
      omega
    · rintro rfl; omega
  · exact Iff.rfl
theorem rweek {k : Nat} (hk : 20 ≤ k) (p : List UInt8) (hp : p.length ≤ 2000) : haversackref09_weekday.f k ⟨p.toArray⟩ = some (weekW p && decide (p.drop 3 = [44])) := by
  obtain ⟨k, rfl⟩ : ∃ n, k = n + 8 := ⟨k - 8, by omega⟩
  have w0 : wrap64 (0 + 1) = 1 := by decide +kernel
  have w1 : wrap64 (1 + 1) = 2 := by decide +kernel
  have w2 : wrap64 (2 + 1) = 3 := by decide +kernel
  have w3 : wrap64 (3 + 1) = 4 := by decide +kernel
  have w4 : wrap64 (4 + 1) = 5 := by decide +kernel
  have w5 : wrap64 (5 + 1) = 6 := by decide +kernel
  have w6 : wrap64 (6 + 1) = 7 := by decide +kernel
  unfold haversackref09_weekday.f
  have hr : ∀ (t : List ByteArray) (i : Int) (n : Nat) (h : n < t.length), i = n → rdOf ByteArray.empty t i = t[n] := fun t i n h e => by
    subst e; simp [rdOf, h]
  simp only [haversackref09_weekday.l0, lower_some p (by omega), Option.bind_some, ba_toList, w0, w1, w2, w3, w4, w5, w6]
  rw [hr _ 0 0 (by simp) rfl, hr _ 1 1 (by simp) rfl, hr _ 2 2 (by simp) rfl, hr _ 3 3 (by simp) rfl, hr _ 4 4 (by simp) rfl, hr _ 5 5 (by simp) rfl, hr _ 6 6 (by simp) rfl]
  simp only [List.length_cons, List.length_nil, List.getElem_cons_zero, List.getElem_cons_succ, ba_toList]
  have hw : weekW p = (decide (3 ≤ p.length) && ((List.range 7).any (nameP weekdaysL p))) := by
    unfold weekW nameL
    have e7 : weekdaysL.length / 3 = 7 := rfl
    rw [e7]
    by_cases h : 3 ≤ p.length
    · rw [if_pos h, find_any]; simp [h]
    · rw [if_neg h]; simp [h]
  have e7 : List.range 7 = [0, 1, 2, 3, 4, 5, 6] := rfl
  rw [hw, e7]
  rcases p with _ | ⟨a, _ | ⟨b, _ | ⟨c, _ | ⟨d, _ | ⟨e, q⟩⟩⟩⟩⟩
  · simp [lowL]
  · simp [lowL]
  · simp [lowL]
  · simp [lowL]
  · simp only [lowL, List.map_cons, List.map_nil, List.any_cons, List.any_nil, nameP, weekdaysL, List.take_succ_cons, List.take_zero, List.drop_succ_cons, List.drop_zero, List.length_cons, List.length_nil, List.cons.injEq, lowC_44]
    have k1 : lowC 77 = 109 := rfl
    have k2 : lowC 111 = 111 := rfl
    have k3 : lowC 110 = 110 := rfl
    have k4 : lowC 84 = 116 := rfl
    have k5 : lowC 117 = 117 := rfl
    have k6 : lowC 101 = 101 := rfl
    have k7 : lowC 87 = 119 := rfl
    have k8 : lowC 100 = 100 := rfl
    have k9 : lowC 104 = 104 := rfl
    have k10 : lowC 70 = 102 := rfl
    have k11 : lowC 114 = 114 := rfl
    have k12 : lowC 105 = 105 := rfl
    have k13 : lowC 83 = 115 := rfl
    have k14 : lowC 97 = 97 := rfl
    have k15 : lowC 116 = 116 := rfl
    by_cases hd : d = 44
    · simp only [Nat.reduceMul, List.drop_succ_cons, List.drop_zero, List.take_succ_cons, List.take_zero, List.map_cons, List.map_nil, k1, k2, k3, k4, k5, k6, k7, k8, k9, k10, k11, k12, k13, k14, k15, hd, and_true, decide_true, Bool.and_true, Bool.or_false]
      simp only [Bool.beq_eq_decide_eq, List.cons.injEq, and_true]
      rw [if_pos (by omega), if_pos (by omega)]
      by_cases x1 : lowC a = 109 ∧ lowC b = 111 ∧ lowC c = 110
      · rw [if_pos x1]; simp [x1]
      rw [if_neg x1, if_pos (by omega), if_pos (by omega)]
      by_cases x2 : lowC a = 116 ∧ lowC b = 117 ∧ lowC c = 101
      · rw [if_pos x2]; simp [x2]
      rw [if_neg x2, if_pos (by omega), if_pos (by omega)]
      by_cases x3 : lowC a = 119 ∧ lowC b = 101 ∧ lowC c = 100
      · rw [if_pos x3]; simp [x3]
      rw [if_neg x3, if_pos (by omega), if_pos (by omega)]
      by_cases x4 : lowC a = 116 ∧ lowC b = 104 ∧ lowC c = 117
      · rw [if_pos x4]; simp [x4]
      rw [if_neg x4, if_pos (by omega), if_pos (by omega)]
      by_cases x5 : lowC a = 102 ∧ lowC b = 114 ∧ lowC c = 105
      · rw [if_pos x5]; simp [x5]
      rw [if_neg x5, if_pos (by omega), if_pos (by omega)]
      by_cases x6 : lowC a = 115 ∧ lowC b = 97 ∧ lowC c = 116
      · rw [if_pos x6]; simp [x6]
      rw [if_neg x6, if_pos (by omega), if_pos (by omega)]
      by_cases x7 : lowC a = 115 ∧ lowC b = 117 ∧ lowC c = 110
      · rw [if_pos x7]; simp [x7]
      rw [if_neg x7, if_neg (by omega)]
      simp only [decide_eq_false x1, decide_eq_false x2, decide_eq_false x3, decide_eq_false x4, decide_eq_false x5, decide_eq_false x6, decide_eq_false x7, Bool.or_self, Bool.and_false]
    · simp [hd]
  · simp [lowL]
theorem n22 (a b : UInt8) (r : List UInt8) : numberL 2 2 (a :: b :: r) = if isDig a = true ∧ isDig b = true then some (10 * ((a.toNat : Int) - 48) + ((b.toNat : Int) - 48), r) else none := by
  by_cases ha : isDig a = true
  · by_cases hb : isDig b = true
    · rw [if_pos ⟨ha, hb⟩, number2 ha hb]
    · rw [if_neg (fun h => hb h.2)]; simp [numberL, digs, ha, hb]
  · rw [if_neg (fun h => ha h.1)]; simp [numberL, digs, ha]
theorem n22_len {l l' : List UInt8} {x : Int} (h : numberL 2 2 l = some (x, l')) : l.length = l'.length + 2 := by
  obtain ⟨h1, _, rfl⟩ := numberL_some h
  have := digs_le 2 l
  rw [List.length_drop]; omega
theorem must_len1 {c : UInt8} {l l' : List UInt8} (h : mustL [c] l = some l') : l.length = l'.length + 1 := by
  unfold mustL at h
  split at h
  · rename_i hp
    injection h with h
    have := prefix_le hp
    rw [← h, List.length_drop]; simp at this ⊢; omega
  · cases h
theorem must_is (c a : UInt8) (r : List UInt8) : mustL [c] (a :: r) = if a = c then some r else none := by
  unfold mustL
  rw [pre1]
  by_cases h : a = c
  · subst h; rw [if_pos (by simp), if_pos rfl]; rfl
  · rw [if_neg h, if_neg (by simp; exact fun e => h e.symm)]
theorem numV2 (a b : UInt8) : numV [a, b] = if isDig a = true ∧ isDig b = true then 10 * ((a.toNat : Int) - 48) + ((b.toNat : Int) - 48) else -1 := by
  unfold numV
  by_cases h : isDig a = true ∧ isDig b = true
  · rw [if_pos h, if_pos ⟨by simp [h.1, h.2], by simp⟩]; simp [valL]
  · rw [if_neg h, if_neg]
    rintro ⟨h1, _⟩
    simp only [List.all_cons, List.all_nil, Bool.and_true, Bool.and_eq_true] at h1
    exact h h1
theorem clock_len {p : List UInt8} {v : Int × Int × Int} (h : all? clockN p = some v) : p.length = 5 ∨ p.length = 8 := by
  unfold all? clockN at h
  simp only [Option.bind_eq_some_iff] at h
  obtain ⟨a, ⟨b, h1, l1, h2, c, h3, s, h4, h5⟩, h6⟩ := h
  injection h5 with h5
  have e1 := n22_len (x := b.1) (l' := b.2) h1
  have e2 := must_len1 h2
  have e3 := n22_len (x := c.1) (l' := c.2) h3
  have e4 : s.2 = [] := by
    rw [← h5] at h6
    by_cases e : s.2 = []
    · exact e
    · rw [if_neg e] at h6; cases h6
  unfold mailS at h4
  split at h4
  · simp only [Option.bind_eq_some_iff] at h4
    obtain ⟨l2, g1, g2⟩ := h4
    have e5 := must_len1 g1
    have e6 := n22_len (x := s.1) (l' := s.2) g2
    rw [e4] at e6
    simp at e6
    omega
  · injection h4 with h4
    rw [← h4] at e4
    simp at e4
    rw [e4] at e3
    simp at e3
    omega
theorem clock_j1 {k : Nat} (hk : 21 ≤ k) (a b c d e f g h : UInt8) : haversackref09_clock.j1 k ⟨#[a, b, c, d, e, f, g, h]⟩ false = some (numV [a, b], numV [d, e], numV [g, h]) := by
  obtain ⟨k, rfl⟩ : ∃ n, k = n + 1 := ⟨k - 1, by omega⟩
  have sz : ByteArray.size ⟨#[a, b, c, d, e, f, g, h]⟩ = 8 := rfl
  have x1 : ByteArray.extract ⟨#[a, b, c, d, e, f, g, h]⟩ 0 2 = ⟨#[a, b]⟩ := ba_extract [a, b, c, d, e, f, g, h] 0 2
  have x2 : ByteArray.extract ⟨#[a, b, c, d, e, f, g, h]⟩ 3 5 = ⟨#[d, e]⟩ := ba_extract [a, b, c, d, e, f, g, h] 3 5
  have x3 : ByteArray.extract ⟨#[a, b, c, d, e, f, g, h]⟩ 6 8 = ⟨#[g, h]⟩ := ba_extract [a, b, c, d, e, f, g, h] 6 8
  have n1 : haversackref09_Number.f k ⟨#[a, b]⟩ = some (numV [a, b]) := rnum (by omega) [a, b] (by simp)
  have n2 : haversackref09_Number.f k ⟨#[d, e]⟩ = some (numV [d, e]) := rnum (by omega) [d, e] (by simp)
  have n3 : haversackref09_Number.f k ⟨#[g, h]⟩ = some (numV [g, h]) := rnum (by omega) [g, h] (by simp)
  simp only [haversackref09_clock.j1, sz, x1, x2, x3, n1, n2, n3, Option.bind_some]
  rw [if_neg (by simp), if_pos (by omega), if_pos (by omega), if_pos (by omega), if_pos (by omega), if_pos (by omega)]
theorem clock_j0 {k : Nat} (hk : 22 ≤ k) (a b c d e f g h : UInt8) : haversackref09_clock.j0 k ⟨#[a, b, c, d, e, f, g, h]⟩ = some (if c = 58 ∧ f = 58 then (numV [a, b], numV [d, e], numV [g, h]) else (-1, 0, 0)) := by
  obtain ⟨k, rfl⟩ : ∃ n, k = n + 1 := ⟨k - 1, by omega⟩
  have sz : ByteArray.size ⟨#[a, b, c, d, e, f, g, h]⟩ = 8 := rfl
  have b2 : bt ⟨#[a, b, c, d, e, f, g, h]⟩ 2 = c.toNat := rfl
  have b5 : bt ⟨#[a, b, c, d, e, f, g, h]⟩ 5 = f.toNat := rfl
  have hj : ∀ x : ByteArray, haversackref09_clock.j1 k x true = some (-1, 0, 0) := fun x => by
    obtain ⟨k, rfl⟩ : ∃ n, k = n + 1 := ⟨k - 1, by omega⟩
    simp only [haversackref09_clock.j1, if_true]
  have hu : ∀ x : UInt8, (x.toNat : Int) = 58 ↔ x = 58 := fun x => by
    constructor
    · intro e; exact UInt8.toNat_inj.1 (by have : (58 : UInt8).toNat = 58 := rfl; omega)
    · rintro rfl; rfl
  simp only [haversackref09_clock.j0, sz, b2, b5]
  rw [if_pos (by omega), if_pos (by omega)]
  by_cases hc : c = 58
  · rw [if_pos ((hu c).2 hc), if_pos (by omega)]
    by_cases hf : f = 58
    · have : ((f.toNat : Int) != 58) = false := by rw [(hu f).2 hf]; rfl
      rw [this, clock_j1 (by omega), if_pos ⟨hc, hf⟩]
    · have : ((f.toNat : Int) != 58) = true := by rw [bne_iff_ne]; exact fun e => hf ((hu f).1 e)
      rw [this, hj, if_neg (fun h => hf h.2)]
  · rw [if_neg (fun e => hc ((hu c).1 e)), hj, if_neg (fun h => hc h.1)]
theorem rclock {k : Nat} (hk : 30 ≤ k) (p : List UInt8) (hp : p.length ≤ 2000) :
    ∃ h m s, haversackref09_clock.f k ⟨p.toArray⟩ = some (h, m, s) ∧ (all? clockN p = some (h, m, s) ∨ (all? clockN p = none ∧ ∀ z, clk h m s z = false)) := by
  by_cases h5 : p.length = 5
  · rcases p with _ | ⟨a, _ | ⟨b, _ | ⟨c, _ | ⟨d, _ | ⟨e, _ | ⟨x, q⟩⟩⟩⟩⟩⟩ <;> try (simp at h5; done)
    have e1 : haversackref09_clock.f k ⟨#[a, b, c, d, e]⟩ = haversackref09_clock.j0 k ⟨#[a, b, c, d, e, 58, 48, 48]⟩ := by
      unfold haversackref09_clock.f
      have sz : ByteArray.size ⟨#[a, b, c, d, e]⟩ = 5 := rfl
      rw [sz, if_pos (by omega), if_pos (by omega)]
      rw [show (⟨#[a, b, c, d, e]⟩ : ByteArray) ++ ⟨#[58, 48, 48]⟩ = ⟨#[a, b, c, d, e, 58, 48, 48]⟩ from ba_append [a, b, c, d, e] [58, 48, 48]]
    have e2 : haversackref09_clock.f k ⟨[a, b, c, d, e].toArray⟩ = _ := e1.trans (clock_j0 (by omega) a b c d e 58 48 48)
    have n0 : numV [48, 48] = 0 := by decide
    rw [n0] at e2
    have e3 : all? clockN [a, b, c, d, e] = if (isDig a = true ∧ isDig b = true) ∧ c = 58 ∧ isDig d = true ∧ isDig e = true then some (10 * ((a.toNat : Int) - 48) + ((b.toNat : Int) - 48), 10 * ((d.toNat : Int) - 48) + ((e.toNat : Int) - 48), 0) else none := by
      unfold all? clockN
      rw [n22]
      by_cases h1 : isDig a = true ∧ isDig b = true
      · rw [if_pos h1]
        simp only [Option.bind_some]
        rw [must_is]
        by_cases h2 : c = 58
        · rw [if_pos h2]
          simp only [Option.bind_some]
          rw [n22]
          by_cases h3 : isDig d = true ∧ isDig e = true
          · rw [if_pos h3, if_pos ⟨h1, h2, h3⟩]; rfl
          · rw [if_neg h3, if_neg (fun h => h3 h.2.2)]; rfl
        · rw [if_neg h2, if_neg (fun h => h2 h.2.1)]; rfl
      · rw [if_neg h1, if_neg (fun h => h1 h.1)]; rfl
    rw [e2, e3, numV2, numV2]
    by_cases h1 : isDig a = true ∧ isDig b = true <;> by_cases h2 : c = 58 <;> by_cases h3 : isDig d = true ∧ isDig e = true <;> simp only [h1, h2, h3, and_true, true_and, and_false, false_and, if_true, if_false, and_self]
    · exact ⟨_, _, _, rfl, .inl rfl⟩
    all_goals first | exact ⟨_, _, _, rfl, .inr ⟨rfl, fun z => clk_no (by omega)⟩⟩ | exact ⟨_, _, _, rfl, .inr fun z => clk_no (by omega)⟩
  · have hf : haversackref09_clock.f k ⟨p.toArray⟩ = haversackref09_clock.j0 k ⟨p.toArray⟩ := by
      unfold haversackref09_clock.f
      rw [ba_size, if_neg (by omega)]
    by_cases h8 : p.length = 8
    · rcases p with _ | ⟨a, _ | ⟨b, _ | ⟨c, _ | ⟨d, _ | ⟨e, _ | ⟨f, _ | ⟨g, _ | ⟨h, _ | ⟨x, q⟩⟩⟩⟩⟩⟩⟩⟩⟩ <;> try (simp at h8; done)
      have e2 : haversackref09_clock.f k ⟨[a, b, c, d, e, f, g, h].toArray⟩ = _ := hf.trans (clock_j0 (by omega) a b c d e f g h)
      have e3 : all? clockN [a, b, c, d, e, f, g, h] = if (isDig a = true ∧ isDig b = true) ∧ c = 58 ∧ (isDig d = true ∧ isDig e = true) ∧ f = 58 ∧ isDig g = true ∧ isDig h = true then some (10 * ((a.toNat : Int) - 48) + ((b.toNat : Int) - 48), 10 * ((d.toNat : Int) - 48) + ((e.toNat : Int) - 48), 10 * ((g.toNat : Int) - 48) + ((h.toNat : Int) - 48)) else none := by
        unfold all? clockN
        rw [n22]
        by_cases h1 : isDig a = true ∧ isDig b = true
        · rw [if_pos h1]
          simp only [Option.bind_some]
          rw [must_is]
          by_cases h2 : c = 58
          · rw [if_pos h2]
            simp only [Option.bind_some]
            rw [n22]
            by_cases h3 : isDig d = true ∧ isDig e = true
            · rw [if_pos h3]
              simp only [Option.bind_some]
              unfold mailS
              rw [pre1]
              by_cases h4 : f = 58
              · rw [if_pos (by simp [h4]), must_is, if_pos h4]
                simp only [Option.bind_some]
                rw [n22]
                by_cases h5 : isDig g = true ∧ isDig h = true
                · rw [if_pos h5, if_pos ⟨h1, h2, h3, h4, h5⟩]; rfl
                · rw [if_neg h5, if_neg (fun h => h5 h.2.2.2.2)]; rfl
              · rw [if_neg (by simp; exact fun e => h4 e.symm), if_neg (fun h => h4 h.2.2.2.1)]; rfl
            · rw [if_neg h3, if_neg (fun h => h3 h.2.2.1)]; rfl
          · rw [if_neg h2, if_neg (fun h => h2 h.2.1)]; rfl
        · rw [if_neg h1, if_neg (fun h => h1 h.1)]; rfl
      rw [e2, e3, numV2, numV2, numV2]
      by_cases h1 : isDig a = true ∧ isDig b = true <;> by_cases h2 : c = 58 <;> by_cases h3 : isDig d = true ∧ isDig e = true <;> by_cases h4 : f = 58 <;> by_cases h5 : isDig g = true ∧ isDig h = true <;> simp only [h1, h2, h3, h4, h5, and_true, true_and, and_false, false_and, if_true, if_false, and_self]
      · exact ⟨_, _, _, rfl, .inl rfl⟩
      all_goals first | exact ⟨_, _, _, rfl, .inr ⟨rfl, fun z => clk_no (by omega)⟩⟩ | exact ⟨_, _, _, rfl, .inr fun z => clk_no (by omega)⟩
    · have hn : all? clockN p = none := by
        cases h : all? clockN p with
        | none => rfl
        | some v => rcases clock_len h with h | h <;> omega
      obtain ⟨k, rfl⟩ : ∃ n, k = n + 2 := ⟨k - 2, by omega⟩
      have : haversackref09_clock.j0 (k + 2) ⟨p.toArray⟩ = some (-1, 0, 0) := by
        simp only [haversackref09_clock.j0, ba_size]
        rw [if_neg (by omega)]
        simp only [haversackref09_clock.j1, if_true]
      exact ⟨-1, 0, 0, hf.trans this, .inr ⟨hn, fun z => clk_no (by omega)⟩⟩
theorem zone_len5 {p : List UInt8} {z : Int} (h : all? zoneL p = some z) : p.length = 5 := by
  unfold all? at h
  simp only [Option.bind_eq_some_iff] at h
  obtain ⟨a, h1, h2⟩ := h
  cases p with
  | nil => cases h1
  | cons c r =>
    simp only [zoneL] at h1
    split at h1
    · simp only [Option.bind_eq_some_iff] at h1
      obtain ⟨b, g1, d, g2, g3⟩ := h1
      have e1 := n22_len (x := b.1) (l' := b.2) g1
      have e2 := n22_len (x := d.1) (l' := d.2) g2
      split at g3
      · cases g3
      · injection g3 with g3
        rw [← g3] at h2
        by_cases e : d.2 = []
        · rw [e] at e2; simp at e2 ⊢; omega
        · rw [if_neg e] at h2; cases h2
    · cases h1
theorem rzone {k : Nat} (hk : 30 ≤ k) (p : List UInt8) (hp : p.length ≤ 2000) : haversackref09_Zone.f k ⟨p.toArray⟩ = some (match all? zoneL p with | some z => (z, true) | none => (0, false)) := by
  obtain ⟨k, rfl⟩ : ∃ n, k = n + 2 := ⟨k - 2, by omega⟩
  have ht : haversackref09_Zone.j0 (k + 2) ⟨p.toArray⟩ true = some (0, false) := by simp only [haversackref09_Zone.j0, if_true]
  by_cases h5 : p.length = 5
  · rcases p with _ | ⟨c, _ | ⟨a, _ | ⟨b, _ | ⟨d, _ | ⟨e, _ | ⟨x, q⟩⟩⟩⟩⟩⟩ <;> try (simp at h5; done)
    have sz : ByteArray.size ⟨#[c, a, b, d, e]⟩ = 5 := rfl
    have b0 : bt ⟨#[c, a, b, d, e]⟩ 0 = c.toNat := rfl
    have x1 : ByteArray.extract ⟨#[c, a, b, d, e]⟩ 1 3 = ⟨#[a, b]⟩ := ba_extract [c, a, b, d, e] 1 3
    have x2 : ByteArray.extract ⟨#[c, a, b, d, e]⟩ 3 5 = ⟨#[d, e]⟩ := ba_extract [c, a, b, d, e] 3 5
    have n1 : haversackref09_Number.f (k + 1) ⟨#[a, b]⟩ = some (numV [a, b]) := rnum (by omega) [a, b] (by simp)
    have n2 : haversackref09_Number.f (k + 1) ⟨#[d, e]⟩ = some (numV [d, e]) := rnum (by omega) [d, e] (by simp)
    have hu : ∀ (x : UInt8) (n : Int) (m : UInt8), (m.toNat : Int) = n → ((x.toNat : Int) = n ↔ x = m) := fun x n m hm => by
      constructor
      · intro e; exact UInt8.toNat_inj.1 (by omega)
      · rintro rfl; exact hm
    have u43 := hu c 43 43 rfl
    have u45 := hu c 45 45 rfl
    have hj : haversackref09_Zone.j0 (k + 2) ⟨#[c, a, b, d, e]⟩ false = some (if (0 ≤ numV [a, b] ∧ numV [a, b] ≤ 23) ∧ 0 ≤ numV [d, e] ∧ numV [d, e] ≤ 59 then (if c = 45 then -60 * numV [a, b] - numV [d, e] else 60 * numV [a, b] + numV [d, e], true) else (0, false)) := by
      simp only [haversackref09_Zone.j0, sz, x1, x2, n1, n2, Option.bind_some, rin]
      rw [if_neg (by simp), if_pos (by omega), if_pos (by omega), if_pos (by omega), if_pos (by omega)]
      by_cases g1 : 0 ≤ numV [a, b] ∧ numV [a, b] ≤ 23
      · rw [if_pos (decide_eq_true g1)]
        by_cases g2 : 0 ≤ numV [d, e] ∧ numV [d, e] ≤ 59
        · have : (!decide (0 ≤ numV [d, e] ∧ numV [d, e] ≤ 59)) = false := by rw [decide_eq_true g2]; rfl
          rw [this, if_pos ⟨g1, g2⟩]
          simp only [haversackref09_Zone.j1, sz, b0]
          rw [if_neg (by simp), if_pos (by omega)]
          by_cases hc : c = 45
          · rw [if_pos (u45.2 hc), if_pos hc, w64 (x := -60 * numV [a, b]) (by omega), w64 (by omega)]
          · rw [if_neg (fun e => hc (u45.1 e)), if_neg hc, w64 (x := 60 * numV [a, b]) (by omega), w64 (by omega)]
        · have : (!decide (0 ≤ numV [d, e] ∧ numV [d, e] ≤ 59)) = true := by rw [decide_eq_false g2]; rfl
          rw [this, if_neg (fun h => g2 h.2)]
          simp only [haversackref09_Zone.j1, if_true]
      · rw [if_neg (by simpa using g1), if_neg (fun h => g1 h.1)]
        simp only [haversackref09_Zone.j1, if_true]
    have hz : all? zoneL [c, a, b, d, e] = if c = 45 ∨ c = 43 then (if (0 ≤ numV [a, b] ∧ numV [a, b] ≤ 23) ∧ 0 ≤ numV [d, e] ∧ numV [d, e] ≤ 59 then some (if c = 45 then -60 * numV [a, b] - numV [d, e] else 60 * numV [a, b] + numV [d, e]) else none) else none := by
      unfold all?
      simp only [zoneL]
      by_cases hc : c = 45 ∨ c = 43
      · rw [if_pos hc, if_pos hc, n22, numV2, numV2]
        by_cases g1 : isDig a = true ∧ isDig b = true
        · have q1 := dig_bt g1.1
          have q2 := dig_bt g1.2
          rw [if_pos g1, if_pos g1]
          simp only [Option.bind_some]
          rw [n22]
          generalize hx : 10 * ((a.toNat : Int) - 48) + ((b.toNat : Int) - 48) = x
          have hx0 : 0 ≤ x := by omega
          by_cases g2 : isDig d = true ∧ isDig e = true
          · have q3 := dig_bt g2.1
            have q4 := dig_bt g2.2
            rw [if_pos g2, if_pos g2]
            simp only [Option.bind_some]
            generalize hy : 10 * ((d.toNat : Int) - 48) + ((e.toNat : Int) - 48) = y
            have hy0 : 0 ≤ y := by omega
            by_cases g3 : x > 23 ∨ y > 59
            · have n : ¬ ((0 ≤ x ∧ x ≤ 23) ∧ 0 ≤ y ∧ y ≤ 59) := by omega
              rw [if_pos g3, if_neg n]; rfl
            · have n : (0 ≤ x ∧ x ≤ 23) ∧ 0 ≤ y ∧ y ≤ 59 := by omega
              rw [if_neg g3, if_pos n]
              simp only [Option.bind_some, if_true]
              congr 1
              by_cases h45 : c = 45
              · rw [if_pos h45, if_pos h45]; omega
              · rw [if_neg h45, if_neg h45]; omega
          · have n : ¬ ((0 ≤ x ∧ x ≤ 23) ∧ (0 : Int) ≤ -1 ∧ (-1 : Int) ≤ 59) := by omega
            rw [if_neg g2, if_neg g2, if_neg n]; rfl
        · have n : ∀ B : Int, ¬ (((0 : Int) ≤ -1 ∧ (-1 : Int) ≤ 23) ∧ 0 ≤ B ∧ B ≤ 59) := by intro B; omega
          rw [if_neg g1, if_neg g1, if_neg (n _)]; rfl
      · rw [if_neg hc, if_neg hc]; rfl
    have hfin : c = 45 ∨ c = 43 → haversackref09_Zone.j0 (k + 2) ⟨#[c, a, b, d, e]⟩ false = some (match all? zoneL [c, a, b, d, e] with | some z => (z, true) | none => (0, false)) := fun hc => by
      rw [hj, hz, if_pos hc]
      by_cases n : (0 ≤ numV [a, b] ∧ numV [a, b] ≤ 23) ∧ 0 ≤ numV [d, e] ∧ numV [d, e] ≤ 59
      · rw [if_pos n, if_pos n]
      · rw [if_neg n, if_neg n]
    show haversackref09_Zone.f (k + 2) ⟨#[c, a, b, d, e]⟩ = _
    unfold haversackref09_Zone.f
    rw [sz, b0, if_pos (by omega), if_pos (by omega)]
    by_cases h43 : c = 43
    · rw [if_pos (u43.2 h43)]
      exact hfin (.inr h43)
    · rw [if_neg (fun e => h43 (u43.1 e))]
      by_cases h45 : c = 45
      · have : ((c.toNat : Int) != 45) = false := by rw [u45.2 h45]; rfl
        rw [this]
        exact hfin (.inl h45)
      · have : ((c.toNat : Int) != 45) = true := by rw [bne_iff_ne]; exact fun e => h45 (u45.1 e)
        have hno : ¬ (c = 45 ∨ c = 43) := by rintro (h | h); exact h45 h; exact h43 h
        rw [this, hz, if_neg hno]
        exact ht
  · have hn : all? zoneL p = none := by
      cases h : all? zoneL p with
      | none => rfl
      | some v => have := zone_len5 h; omega
    rw [hn]
    unfold haversackref09_Zone.f
    rw [ba_size, if_neg (by omega)]
    exact ht
theorem pre_eq {t l : List UInt8} (h : t.isPrefixOf l = true) (n : Nat) (hn : t.length = n) : l.drop n = [] ↔ l = t := by
  rw [List.isPrefixOf_iff_prefix] at h
  obtain ⟨r, rfl⟩ := h
  subst hn
  rw [List.drop_left]
  constructor
  · rintro rfl; simp
  · intro e; simpa using e
theorem zone_head {p : List UInt8} {x : UInt8} {t : List UInt8} (h : (x :: t).isPrefixOf (lowL p) = true) (hx : x = 103 ∨ x = 117) : zoneL p = none := by
  cases p with
  | nil => rfl
  | cons c r =>
    have h' : (x :: t).isPrefixOf (lowC c :: lowL r) = true := h
    simp only [List.isPrefixOf, Bool.and_eq_true, beq_iff_eq] at h'
    simp only [zoneL]
    rw [if_neg]
    rintro (rfl | rfl)
    · have := h'.1; rcases hx with rfl | rfl <;> revert this <;> decide
    · have := h'.1; rcases hx with rfl | rfl <;> revert this <;> decide
theorem all_mailZ (p : List UInt8) : all? mailZ p = if lowL p = [103, 109, 116] ∨ lowL p = [117, 116] then some 0 else all? zoneL p := by
  have hd : ∀ n, p.drop n = [] ↔ (lowL p).drop n = [] := fun n => by
    rw [List.drop_eq_nil_iff, List.drop_eq_nil_iff]; unfold lowL; rw [List.length_map]
  unfold all? mailZ
  by_cases h1 : [103, 109, 116].isPrefixOf (lowL p) = true
  · rw [if_pos h1]
    simp only [Option.bind_some]
    have := pre_eq h1 3 rfl
    by_cases h3 : lowL p = [103, 109, 116]
    · rw [if_pos ((hd 3).2 (this.2 h3)), if_pos (.inl h3)]
    · rw [if_neg (fun e => h3 (this.1 ((hd 3).1 e))), if_neg, zone_head h1 (.inl rfl)]
      · rfl
      · rintro (e | e)
        · exact h3 e
        · rw [e] at h1; revert h1; decide
  · rw [if_neg h1]
    by_cases h2 : [117, 116].isPrefixOf (lowL p) = true
    · rw [if_pos h2]
      simp only [Option.bind_some]
      have := pre_eq h2 2 rfl
      by_cases h3 : lowL p = [117, 116]
      · rw [if_pos ((hd 2).2 (this.2 h3)), if_pos (.inr h3)]
      · rw [if_neg (fun e => h3 (this.1 ((hd 2).1 e))), if_neg, zone_head h2 (.inr rfl)]
        · rfl
        · rintro (e | e)
          · rw [e] at h1; revert h1; decide
          · exact h3 e
    · rw [if_neg h2, if_neg]
      rintro (e | e)
      · rw [e] at h1; revert h1; decide
      · rw [e] at h2; revert h2; decide
def bas (l : List (List UInt8)) : List ByteArray := l.map fun p => ⟨p.toArray⟩
theorem rblank (c : UInt8) : haversackref09_blank.f (c.toNat : Int) = some (isBl c) := by
  have hu : ∀ (n : Int) (m : UInt8), (m.toNat : Int) = n → ((c.toNat : Int) = n ↔ c = m) := fun n m hm => by
    constructor
    · intro e; exact UInt8.toNat_inj.1 (by omega)
    · rintro rfl; exact hm
  have h9 := hu 9 9 rfl
  have h10 := hu 10 10 rfl
  have h13 := hu 13 13 rfl
  have h32 := hu 32 32 rfl
  unfold haversackref09_blank.f isBl
  by_cases g9 : c = 9
  · rw [if_pos (h9.2 g9), g9]; rfl
  · rw [if_neg (fun e => g9 (h9.1 e))]
    by_cases g10 : c = 10
    · rw [if_pos (h10.2 g10), g10]; rfl
    · rw [if_neg (fun e => g10 (h10.1 e))]
      by_cases g13 : c = 13
      · rw [if_pos (h13.2 g13), g13]; rfl
      · rw [if_neg (fun e => g13 (h13.1 e))]
        by_cases g32 : c = 32
        · rw [g32]; rfl
        · have : ((c.toNat : Int) == 32) = false := by rw [beq_eq_false_iff_ne]; exact fun e => g32 (h32.1 e)
          rw [this]
          simp [g9, g10, g13, g32]
theorem rd_last (o : List ByteArray) (x : ByteArray) (i : Int) (hi : i = o.length) : rdOf ByteArray.empty (o ++ [x]) i = x := by
  subst hi; simp [rdOf]
theorem split_l (r : List UInt8) : ∀ (pre : List UInt8) (o : List (List UInt8)) (cur : Option (List UInt8)) (k : Nat), r.length + 1 ≤ k → pre.length + r.length ≤ 2000 → o.length ≤ pre.length → (∀ c, cur = some c → c.length ≤ pre.length) →
    haversackref09_Split.l0 k ⟨(pre ++ r).toArray⟩ (bas (o ++ cur.toList)) cur.isSome (pre.length : Int) = some (bas (o ++ pcs cur r)) := by
  induction r with
  | nil =>
    intro pre o cur k hk hl ho hc
    obtain ⟨k, rfl⟩ : ∃ n, k = n + 1 := ⟨k - 1, by omega⟩
    simp only [haversackref09_Split.l0, ba_size, List.append_nil]
    rw [if_neg (by omega)]
    cases cur <;> rfl
  | cons b r ih =>
    intro pre o cur k hk hl ho hc
    simp only [List.length_cons] at hk hl
    obtain ⟨k, rfl⟩ : ∃ n, k = n + 1 := ⟨k - 1, by omega⟩
    have hl2 : (pre ++ b :: r).length = pre.length + r.length + 1 := by simp; omega
    have w1 : wrap64 ((pre.length : Int) + 1) = (pre.length : Int) + 1 := w64 (by omega)
    have ep : pre ++ b :: r = (pre ++ [b]) ++ r := by simp
    have e2 : ((pre ++ [b]).length : Int) = (pre.length : Int) + 1 := by simp
    have ex : ByteArray.extract ⟨(pre ++ b :: r).toArray⟩ ((pre.length : Int)).toNat ((pre.length : Int) + 1).toNat = ⟨#[b]⟩ := by
      have h1 : ((pre.length : Int)).toNat = pre.length := by omega
      have h2 : ((pre.length : Int) + 1).toNat = pre.length + 1 := by omega
      rw [h1, h2, ba_extract]
      congr 1
      simp [List.take_append, List.take_of_length_le]
    have step1 : ∀ (o' : List (List UInt8)) (c : List UInt8), o'.length ≤ pre.length → c.length ≤ pre.length →
        (if 0 ≤ (wrap64 (((bas (o' ++ [c])).length : Int) - 1)) then (if (wrap64 (((bas (o' ++ [c])).length : Int) - 1)) < ((bas (o' ++ [c])).length : Int) then (if (pre.length : Int) ≤ (pre.length : Int) + 1 then (if (pre.length : Int) + 1 ≤ ((pre ++ b :: r).length : Int) then (if (rdOf ByteArray.empty (bas (o' ++ [c])) (wrap64 (((bas (o' ++ [c])).length : Int) - 1))).size + ((((pre.length : Int) + 1).toNat - ((pre.length : Int)).toNat)) ≤ 9223372036854775807 then (haversackref09_Split.l0 k ⟨(pre ++ b :: r).toArray⟩ ((bas (o' ++ [c])).set ((wrap64 (((bas (o' ++ [c])).length : Int) - 1)) : Int).toNat ((rdOf ByteArray.empty (bas (o' ++ [c])) (wrap64 (((bas (o' ++ [c])).length : Int) - 1))) ++ (ByteArray.extract ⟨(pre ++ b :: r).toArray⟩ ((pre.length : Int)).toNat ((pre.length : Int) + 1).toNat))) true ((pre.length : Int) + 1)) else (none)) else (none)) else (none)) else (none)) else (none)) = some (bas (o' ++ pcs (some (c ++ [b])) r)) := by
      intro o' c ho' hc'
      have hbl : (bas (o' ++ [c])).length = o'.length + 1 := by simp [bas]
      have hbs : bas (o' ++ [c]) = bas o' ++ [⟨c.toArray⟩] := by simp [bas]
      have hw : wrap64 (((o'.length + 1 : Nat) : Int) - 1) = (o'.length : Int) := by rw [w64 (by omega)]; omega
      have hrd : rdOf ByteArray.empty (bas (o' ++ [c])) (o'.length : Int) = ⟨c.toArray⟩ := by rw [hbs]; exact rd_last _ _ _ (by simp [bas])
      rw [hbl, hw, hrd, ex, hl2, ba_size]
      rw [if_pos (by omega), if_pos (by omega), if_pos (by omega), if_pos (by omega), if_pos (by omega)]
      have hset : (bas (o' ++ [c])).set ((o'.length : Int)).toNat ((⟨c.toArray⟩ : ByteArray) ++ ⟨#[b]⟩) = bas (o' ++ [c ++ [b]]) := by
        rw [hbs, show ((⟨c.toArray⟩ : ByteArray) ++ ⟨#[b]⟩) = ⟨(c ++ [b]).toArray⟩ from ba_append c [b]]
        have : ((o'.length : Int)).toNat = (bas o').length := by simp [bas]
        rw [this, List.set_append_right _ _ (Nat.le_refl _)]
        simp [bas]
      rw [hset]
      have := ih (pre ++ [b]) o' (some (c ++ [b])) k (by omega) (by simp; omega) (by simp; omega) (by intro c' h; injection h with h; rw [← h]; simp; omega)
      rw [← ep, e2] at this
      exact this
    simp only [haversackref09_Split.l0]
    rw [ba_size, if_pos (by rw [hl2]; omega), if_pos (by omega), bt_mid, rblank]
    simp only [Option.bind_some, w1]
    cases hb : isBl b with
    | true =>
      rw [if_pos rfl]
      have := ih (pre ++ [b]) (o ++ cur.toList) none k (by omega) (by simp; omega)
      cases cur with
      | none =>
        have := this (by simp; omega) (by intro c h; cases h)
        rw [← ep, e2] at this
        simp only [Option.toList_none, List.append_nil, Option.isSome_none] at this ⊢
        rw [this]
        simp only [pcs]
        rw [if_pos hb]
      | some c =>
        have := this (by simp; omega) (by intro c h; cases h)
        rw [← ep, e2] at this
        simp only [Option.toList_none, Option.toList_some, List.append_nil, Option.isSome_none] at this ⊢
        rw [this]
        simp only [pcs]
        rw [if_pos hb]
        simp
    | false =>
      rw [if_neg (by decide)]
      cases cur with
      | none =>
        rw [if_neg (by simp)]
        have hol : (bas (o ++ (none : Option (List UInt8)).toList)).length = o.length := by simp [bas]
        rw [hol, if_pos (by omega)]
        have eb : bas (o ++ (none : Option (List UInt8)).toList) ++ [⟨#[]⟩] = bas (o ++ [[]]) := by simp [bas]
        simp only [eb]
        rw [step1 o [] ho (by simp)]
        simp only [pcs]
        rw [if_neg (by rw [hb]; decide)]
        rfl
      | some c =>
        rw [if_pos (show (some c).isSome = true from rfl)]
        refine (step1 o c ho (hc c rfl)).trans ?_
        simp only [pcs]
        rw [if_neg (by rw [hb]; decide)]
theorem split_k {k : Nat} (hk : 2010 ≤ k) (l : List UInt8) (hl : l.length ≤ 2000) : haversackref09_Split.f k ⟨l.toArray⟩ = some (bas (pcs none l)) :=
  split_l l [] [] none k (by omega) (by simpa using hl) (by simp) (by intro c h; cases h)
theorem rd_bas (l : List (List UInt8)) (i : Int) (n : Nat) (h : n < l.length) (e : i = n) : rdOf ByteArray.empty (bas l) i = ⟨l[n].toArray⟩ := by
  subst e; simp [rdOf, bas, h]
/-- What a reading is, right or not. -/
def fin8 (o : Option D7) : Int × Int × Int × Int × Int × Int × Int × Int :=
  match o with
  | none => (0, 0, 0, 0, 0, 0, 0, 11)
  | some (y, m, d, h, mi, s, z) => if rgt y m d h mi s z = true then (y, m, d, h, mi, s, z, 0) else (0, 0, 0, 0, 0, 0, 0, 11)
theorem readM_is (M : List UInt8 → Option D7) (l : List UInt8) : readM M l = some (fin8 (M l)) := by
  unfold readM fin8
  cases M l with
  | none => rfl
  | some v =>
    obtain ⟨y, m, d, h, mi, s, z⟩ := v
    simp only [right_k (k := 1) (by omega), Option.map_some]
theorem vld_no {y m d : Int} (h : y < 1 ∨ m < 1 ∨ d < 1) : vld y m d = false := by
  unfold vld; rw [decide_eq_false_iff_not]; omega
end Go.Proofs.YtooknjpdflokkaaDoor.Pure

/- YtooknjpdflokkaaDoorMyMailC, as far as DateMails needs it (prune.py). -/
namespace Go.Proofs.YtooknjpdflokkaaDoor.Pure
open Go.RowKit Go.Proofs.YtooknjpdflokkaaDoor.PP Go.Proofs.YtooknjpdflokkaaDoor.My Go.Proofs.YtooknjpdflokkaaDoorW.PrintWords Go.Proofs.YtooknjpdflokkaaDoorW.PrintLast
set_option linter.unusedVariables false
set_option linter.unusedSimpArgs false
theorem rmail_j1 {k : Nat} (hk : 60 ≤ k) (ps : List (List UInt8)) (hp : ∀ p, p ∈ ps → p ≠ [] ∧ p.length ≤ 2000) : haversackref09_Mail.j1 k (bas ps) = some (fin8 (five ps)) := by
  obtain ⟨k, rfl⟩ : ∃ n, k = n + 4 := ⟨k - 4, by omega⟩
  have hlen : (bas ps).length = ps.length := by simp [bas]
  have jt : ∀ x, haversackref09_Mail.j2 (k + 3) x true = some (0, 0, 0, 0, 0, 0, 0, 11) := fun x => by simp only [haversackref09_Mail.j2, if_true]
  simp only [haversackref09_Mail.j1, hlen]
  by_cases h5 : ps.length = 5
  · rcases ps with _ | ⟨d, _ | ⟨m, _ | ⟨y, _ | ⟨c, _ | ⟨z, _ | ⟨x, q⟩⟩⟩⟩⟩⟩ <;> try (simp at h5; done)
    obtain ⟨d0, dl⟩ := hp d (by simp)
    obtain ⟨m0, ml⟩ := hp m (by simp)
    obtain ⟨y0, yl⟩ := hp y (by simp)
    obtain ⟨c0, cl⟩ := hp c (by simp)
    obtain ⟨z0, zl⟩ := hp z (by simp)
    have r0 : rdOf ByteArray.empty (bas [d, m, y, c, z]) 0 = ⟨d.toArray⟩ := rd_bas [d, m, y, c, z] 0 0 (by simp) rfl
    have r1 : rdOf ByteArray.empty (bas [d, m, y, c, z]) 1 = ⟨m.toArray⟩ := rd_bas [d, m, y, c, z] 1 1 (by simp) rfl
    have r2 : rdOf ByteArray.empty (bas [d, m, y, c, z]) 2 = ⟨y.toArray⟩ := rd_bas [d, m, y, c, z] 2 2 (by simp) rfl
    have r3 : rdOf ByteArray.empty (bas [d, m, y, c, z]) 3 = ⟨c.toArray⟩ := rd_bas [d, m, y, c, z] 3 3 (by simp) rfl
    have r4 : rdOf ByteArray.empty (bas [d, m, y, c, z]) 4 = ⟨z.toArray⟩ := rd_bas [d, m, y, c, z] 4 4 (by simp) rfl
    rw [if_pos (by simp), if_pos (by simp), r0, r2, ba_size, ba_size]
    have dpos : 1 ≤ d.length := by cases d with | nil => exact absurd rfl d0 | cons a b => simp
    unfold five
    simp only [all_number]
    by_cases hd : (d.length : Int) > 2
    · rw [if_pos hd, jt, if_neg (by omega)]; rfl
    · rw [if_neg hd, if_pos (by simp)]
      by_cases hy : y.length = 4
      · have : (((y.length : Int)) != 4) = false := by rw [hy]; rfl
        rw [this]
        obtain ⟨h, mi, s, ec, hc⟩ := rclock (k := k + 2) (by omega) c cl
        have ez := rzone (k := k + 2) (by omega) z zl
        have el := lower_some z (by omega)
        simp only [haversackref09_Mail.j2, hlen, r3, r4, ec, ez, el, Option.bind_some, ba_toList, List.length_cons, List.length_nil]
        rw [if_neg (by simp), if_pos (by omega), if_pos (by omega)]
        -- the end: a right date, or none
        have j4 : ∀ (n : Nat), 20 ≤ n → ∀ z' b, haversackref09_Mail.j4 (n + 1) (bas [d, m, y, c, z]) h mi s z' b = some (if b = true then (if rgt (numV y) (monV m) (numV d) h mi s z' = true then (numV y, monV m, numV d, h, mi, s, z', 0) else (0, 0, 0, 0, 0, 0, 0, 11)) else (0, 0, 0, 0, 0, 0, 0, 11)) := by
          intro n hn z' b
          have ey := rnum (k := n) (by omega) y (by omega)
          have ed := rnum (k := n) (by omega) d (by omega)
          have em := rmonth (k := n) (by omega) m ml
          simp only [haversackref09_Mail.j4, hlen, r0, r1, r2, ey, em, ed, Option.bind_some, List.length_cons, List.length_nil, rright_k]
          rw [if_pos (by omega), if_pos (by omega), if_pos (by omega)]
          cases b with
          | true => simp only [if_true]; split <;> rfl
          | false => simp only [Bool.false_eq_true, if_false]
        -- a word that is none's
        have bad : ∀ z', (¬ (y.all isDig = true ∧ d.all isDig = true ∧ all? monthM m ≠ none ∧ all? clockN c ≠ none)) → rgt (numV y) (monV m) (numV d) h mi s z' = false := by
          intro z' hb
          unfold rgt
          by_cases g1 : y.all isDig = true
          · by_cases g2 : d.all isDig = true
            · by_cases g3 : all? monthM m = none
              · rcases monV_bd m with ⟨v, e, _⟩ | ⟨_, e⟩
                · rw [g3] at e; cases e
                · rw [vld_no (by omega)]; rfl
              · have g4 : all? clockN c = none := by
                  by_cases g4 : all? clockN c = none
                  · exact g4
                  · exact absurd ⟨g1, g2, g3, g4⟩ hb
                rcases hc with hc | ⟨_, hc⟩
                · rw [g4] at hc; cases hc
                · rw [hc, Bool.and_false]
            · have : numV d = -1 := by unfold numV; rw [if_neg (fun x => g2 x.1)]
              rw [vld_no (by omega)]; rfl
          · have : numV y = -1 := by unfold numV; rw [if_neg (fun x => g1 x.1)]
            rw [vld_no (by omega)]; rfl
        have fin : ∀ zo : Option Int, (∀ z', zo = some z' → True) →
            some (match zo with | some z' => (if rgt (numV y) (monV m) (numV d) h mi s z' = true then (numV y, monV m, numV d, h, mi, s, z', 0) else (0, 0, 0, 0, 0, 0, 0, 11)) | none => (0, 0, 0, 0, 0, 0, 0, 11)) =
            some (fin8 ((if 1 ≤ d.length ∧ d.length ≤ 2 ∧ d.all isDig = true then some (valL d) else none).bind fun d => (all? monthM m).bind fun m => (if 4 ≤ y.length ∧ y.length ≤ 4 ∧ y.all isDig = true then some (valL y) else none).bind fun y => (all? clockN c).bind fun c => zo.bind fun z => some (y, m, d, c.1, c.2.1, c.2.2, z))) := by
          intro zo _
          by_cases hb : y.all isDig = true ∧ d.all isDig = true ∧ all? monthM m ≠ none ∧ all? clockN c ≠ none
          · obtain ⟨g1, g2, g3, g4⟩ := hb
            rw [if_pos ⟨dpos, by omega, g2⟩, if_pos ⟨by omega, by omega, g1⟩]
            rcases monV_bd m with ⟨v, e, ev⟩ | ⟨e, _⟩
            · rcases hc with hc | ⟨hc, _⟩
              · have y1 : numV y = valL y := by unfold numV; rw [if_pos ⟨g1, y0⟩]
                have d1 : numV d = valL d := by unfold numV; rw [if_pos ⟨g2, d0⟩]
                rw [e, hc, ev, y1, d1]
                cases zo with
                | none => rfl
                | some z' => rfl
              · exact absurd hc g4
            · exact absurd e g3
          · have hL : (match zo with | some z' => (if rgt (numV y) (monV m) (numV d) h mi s z' = true then (numV y, monV m, numV d, h, mi, s, z', (0 : Int)) else (0, 0, 0, 0, 0, 0, 0, 11)) | none => (0, 0, 0, 0, 0, 0, 0, 11)) = (0, 0, 0, 0, 0, 0, 0, 11) := by
              cases zo with
              | none => rfl
              | some z' => simp only [bad z' hb, Bool.false_eq_true, if_false]
            rw [hL]
            congr 1
            symm
            have hR : ((if 1 ≤ d.length ∧ d.length ≤ 2 ∧ d.all isDig = true then some (valL d) else none).bind fun d => (all? monthM m).bind fun m => (if 4 ≤ y.length ∧ y.length ≤ 4 ∧ y.all isDig = true then some (valL y) else none).bind fun y => (all? clockN c).bind fun c => zo.bind fun z => some (y, m, d, c.1, c.2.1, c.2.2, z)) = (none : Option D7) := by
              by_cases g2 : d.all isDig = true
              · rw [if_pos ⟨dpos, by omega, g2⟩, Option.bind_some]
                cases g3 : all? monthM m with
                | none => rfl
                | some v =>
                  rw [Option.bind_some]
                  by_cases g1 : y.all isDig = true
                  · rw [if_pos ⟨by omega, by omega, g1⟩, Option.bind_some]
                    cases g4 : all? clockN c with
                    | none => rfl
                    | some w => exact absurd ⟨g1, g2, by rw [g3]; simp, by rw [g4]; simp⟩ hb
                  · rw [if_neg (fun x => g1 x.2.2)]; rfl
              · rw [if_neg (fun x => g2 x.2.2)]; rfl
            rw [hR]; rfl
        have hzl : all? zoneL z ≠ none → (lowL z).length = 5 := fun h => by
          cases e : all? zoneL z with
          | none => exact absurd e h
          | some v => have := zone_len5 e; unfold lowL; rw [List.length_map]; exact this
        by_cases hg : lowL z = [103, 109, 116]
        · have hZ : all? mailZ z = some 0 := by rw [all_mailZ, if_pos (.inl hg)]
          have hzn : all? zoneL z = none := by
            by_cases h : all? zoneL z = none
            · exact h
            · have := hzl h; rw [hg] at this; simp at this
          rw [if_pos hg, hZ, hzn]
          simp only [haversackref09_Mail.j3, if_true]
          rw [j4 k (by omega)]
          exact fin (some 0) (fun _ _ => trivial)
        · rw [if_neg hg]
          by_cases hu : lowL z = [117, 116]
          · have hZ : all? mailZ z = some 0 := by rw [all_mailZ, if_pos (.inr hu)]
            have hzn : all? zoneL z = none := by
              by_cases h : all? zoneL z = none
              · exact h
              · have := hzl h; rw [hu] at this; simp at this
            have : (lowL z == ([117, 116] : List UInt8)) = true := by rw [hu]; rfl
            rw [this, hZ, hzn]
            simp only [haversackref09_Mail.j3, if_true]
            rw [j4 k (by omega)]
            exact fin (some 0) (fun _ _ => trivial)
          · have hZ : all? mailZ z = all? zoneL z := by
              have hn : ¬ (lowL z = [103, 109, 116] ∨ lowL z = [117, 116]) := by rintro (h | h); exact hg h; exact hu h
              rw [all_mailZ, if_neg hn]
            have : (lowL z == ([117, 116] : List UInt8)) = false := by rw [beq_eq_false_iff_ne]; exact hu
            rw [this, hZ]
            simp only [haversackref09_Mail.j3, Bool.false_eq_true, if_false]
            rw [j4 k (by omega)]
            have := fin (all? zoneL z) (fun _ _ => trivial)
            rw [← this]
            cases all? zoneL z with
            | none => rfl
            | some v => rfl
      · have : (((y.length : Int)) != 4) = true := by rw [bne_iff_ne]; omega
        rw [this, jt]
        congr 1
        symm
        have hR : ((if 1 ≤ d.length ∧ d.length ≤ 2 ∧ d.all isDig = true then some (valL d) else none).bind fun d => (all? monthM m).bind fun m => (if 4 ≤ y.length ∧ y.length ≤ 4 ∧ y.all isDig = true then some (valL y) else none).bind fun y => (all? clockN c).bind fun c => (all? mailZ z).bind fun z => some (y, m, d, c.1, c.2.1, c.2.2, z)) = (none : Option D7) := by
          rw [if_neg (c := 4 ≤ y.length ∧ y.length ≤ 4 ∧ y.all isDig = true) (by omega)]
          cases (if 1 ≤ d.length ∧ d.length ≤ 2 ∧ d.all isDig = true then some (valL d) else none) with
          | none => rfl
          | some v => cases all? monthM m <;> rfl
        rw [hR]; rfl
  · rw [if_neg (by omega), jt]
    have : five ps = none := by
      unfold five
      split
      · simp at h5
      · rfl
    rw [this]; rfl
theorem weekNo {w : List UInt8} (h : w.all isDig = true) : nameL weekdaysL w = none := by
  cases w with
  | nil => rfl
  | cons c r =>
    have hc : isDig c = true := by simp only [List.all_cons, Bool.and_eq_true] at h; exact h.1
    have hb := dig_bt hc
    have hl : lowC c = c := by
      unfold lowC
      rw [if_neg]
      rintro ⟨a, _⟩
      rw [UInt8.le_iff_toNat_le] at a
      have e : (65 : UInt8).toNat = 65 := rfl
      omega
    refine nameL_none (m := 7) rfl (fun j hj => ?_)
    have : j = 0 ∨ j = 1 ∨ j = 2 ∨ j = 3 ∨ j = 4 ∨ j = 5 ∨ j = 6 := by omega
    rcases this with rfl | rfl | rfl | rfl | rfl | rfl | rfl <;> (simp [nameP, lowL, weekdaysL, hl]; intro e; rw [e] at hb; exact absurd hb (by decide))
theorem rmail_k {k : Nat} (hk : 2100 ≤ k) (l : List UInt8) (hl : l.length ≤ 2000) : haversackref09_Mail.f k ⟨l.toArray⟩ = some (fin8 (mailL l)) := by
  rw [mailL_pcs]
  have hp := pcs_ok l
  unfold haversackref09_Mail.f
  rw [split_k (by omega) l hl]
  simp only [Option.bind_some]
  generalize pcs none l = ps at hp ⊢
  have hlen : (bas ps).length = ps.length := by simp [bas]
  obtain ⟨k, rfl⟩ : ∃ n, k = n + 1 := ⟨k - 1, by omega⟩
  cases ps with
  | nil =>
    rw [if_neg (by simp [bas])]
    simp only [haversackref09_Mail.j0, Bool.false_eq_true, if_false]
    exact rmail_j1 (by omega) [] (fun p h => by cases h)
  | cons w ps =>
    have hw := hp w (by simp)
    have r0 : rdOf ByteArray.empty (bas (w :: ps)) 0 = ⟨w.toArray⟩ := rd_bas (w :: ps) 0 0 (by simp) rfl
    rw [if_pos (by simp [bas] <;> omega), if_pos (by simp [bas] <;> omega), r0, rweek (by omega) w (by omega)]
    simp only [Option.bind_some, haversackref09_Mail.j0, hlen]
    have hd : (bas (w :: ps)).drop (1 : Int).toNat = bas ps := rfl
    have hp1 : ∀ p, p ∈ ps → p ≠ [] ∧ p.length ≤ 2000 := fun p h => by have := hp p (by simp [h]); exact ⟨this.1, by omega⟩
    have hp2 : ∀ p, p ∈ w :: ps → p ≠ [] ∧ p.length ≤ 2000 := fun p h => by have := hp p h; exact ⟨this.1, by omega⟩
    have hM : mailW (w :: ps) = if weekW w = true then (if w.drop 3 = [44] then five ps else none) else five (w :: ps) := rfl
    rw [hM]
    cases hW : weekW w with
    | true =>
      by_cases h44 : w.drop 3 = [44]
      · rw [if_pos (by simp [h44]), if_pos (by simp; omega), hd, rmail_j1 (by omega) ps hp1, if_pos rfl, if_pos h44]
      · rw [if_neg (by simp [h44]), rmail_j1 (by omega) (w :: ps) hp2, if_pos rfl, if_neg h44]
        congr 1
        -- a word that begins with a weekday's name is no day
        have hn : five (w :: ps) = none := by
          unfold five
          split
          · rename_i d m y c z e
            injection e with e1 e2
            subst e1
            rw [all_number]
            have : w.all isDig = false := by
              cases ha : w.all isDig with
              | false => rfl
              | true =>
                unfold weekW at hW
                have := weekNo ha
                rw [this] at hW; cases hW
            rw [if_neg (by rw [this]; simp)]; rfl
          · rfl
        rw [hn]
    | false =>
      rw [if_neg (by simp), rmail_j1 (by omega) (w :: ps) hp2, if_neg (by decide)]
end Go.Proofs.YtooknjpdflokkaaDoor.Pure

/- YtooknjpdflokkaaDoorPureDateMails, as far as DateMails needs it (prune.py). -/
namespace Go.Proofs.YtooknjpdflokkaaDoor.Pure
open Go.RowKit Go.Proofs.YtooknjpdflokkaaDoor.PP Go.Proofs.YtooknjpdflokkaaDoor.My Go.Proofs.YtooknjpdflokkaaDoorW.PrintWords Go.Proofs.YtooknjpdflokkaaDoorW.PrintLast
set_option linter.unusedVariables false
set_option linter.unusedSimpArgs false
/-- The number of a day's text. -/
def dayV (o : Option D7) : Int × Int :=
  match o with
  | none => (0, 11)
  | some (y, m, d, _, _, _, _) => if vld y m d = true then (num y m d, 0) else (0, 11)
theorem day_k {k : Nat} (hk : 14 ≤ k) (l : List UInt8) (hl : l.length ≤ 2000) : date_Day.f k ⟨l.toArray⟩ = some (dayV (dayL l)) := by
  have hread : date_read.f ⟨l.toArray⟩ 37 = readM dayL l := by
    unfold date_read.f
    rw [ba_size, if_pos (by omega), if_neg (by decide), if_pos rfl]
  unfold date_Day.f
  rw [hread, readM_is]
  simp only [Option.bind_some]
  cases hd : dayL l with
  | none => rfl
  | some v =>
    obtain ⟨y, m, d, h, mi, s, z⟩ := v
    have hz : h = 0 ∧ mi = 0 ∧ s = 0 ∧ z = 0 := by
      unfold dayL at hd
      simp only [Option.bind_eq_some_iff] at hd
      obtain ⟨_, _, _, _, _, _, _, _, _, _, _, _, e⟩ := hd
      simp only [Option.some.injEq, Prod.mk.injEq] at e
      exact ⟨e.2.2.2.1.symm, e.2.2.2.2.1.symm, e.2.2.2.2.2.1.symm, e.2.2.2.2.2.2.symm⟩
    obtain ⟨rfl, rfl, rfl, rfl⟩ := hz
    have hr : rgt y m d 0 0 0 0 = vld y m d := by
      unfold rgt
      have : clk 0 0 0 0 = true := by decide
      rw [this, Bool.and_true]
    unfold fin8 dayV
    simp only [hr]
    cases hv : vld y m d with
    | true =>
      simp only [if_true]
      rw [days_k (by omega)]
      unfold days
      rw [if_pos hv]; rfl
    | false =>
      simp only [Bool.false_eq_true, if_false]
      rw [if_neg (by omega)]
theorem day_len {l : List UInt8} {v : D7} (h : dayL l = some v) : l.length = 10 ∨ l.length = 11 := by
  unfold dayL at h
  simp only [Option.bind_eq_some_iff] at h
  obtain ⟨d, h1, l2, h2, m, h3, l4, h4, y, h5, u, h6, _⟩ := h
  obtain ⟨a1, _, a2⟩ := numberL_some (x := d.1) (l' := d.2) h1
  have a3 := digs_le 2 l
  have b := must_len1 h2
  have c : l2.length = m.2.length + 3 := by
    unfold monthM nameL at h3
    split at h3
    · rename_i h33
      cases hf : List.find? (nameP monthsL l2) (List.range (monthsL.length / 3)) with
      | none => rw [hf] at h3; cases h3
      | some j =>
        rw [hf] at h3
        injection h3 with h3
        rw [← h3]
        simp only [List.length_drop]; omega
    · cases h3
  have e := must_len1 h4
  obtain ⟨f1, _, f2⟩ := numberL_some (x := y.1) (l' := y.2) h5
  have f3 := digs_le 4 l4
  have g : y.2 = [] := by
    by_cases e : y.2 = []
    · exact e
    · rw [if_neg e] at h6; cases h6
  rw [g] at f2
  have f4 := List.drop_eq_nil_iff.1 f2
  have a4 : d.2.length = l.length - (digs 2 l).length := by rw [← a2, List.length_drop]
  omega
/-- A day's text out of its parts. -/
def parts (d : Int) (mm yy : List UInt8) : Option D7 := (all? monthM mm).bind fun m => (all? (numberL 4 4) yy).bind fun y => some (y, m, d, 0, 0, 0, 0)
theorem month3 (a b c : UInt8) (r : List UInt8) : monthM (a :: b :: c :: r) = (all? monthM [a, b, c]).map fun m => (m, r) := by
  rw [all_month, if_pos (show [a, b, c].length = 3 from rfl)]
  unfold monthM nameL
  rw [if_pos (by simp)]
  have e12 : monthsL.length / 3 = 12 := rfl
  have e1 : nameP monthsL (a :: b :: c :: r) = nameP monthsL [a, b, c] := funext fun j => rfl
  rw [e12, e1]
  cases List.find? (nameP monthsL [a, b, c]) (List.range 12) <;> rfl
theorem tail_day (d : Int) (s1 a b c s2 : UInt8) (r : List UInt8) :
    ((mustL [45] (s1 :: a :: b :: c :: s2 :: r)).bind fun l2 => (monthM l2).bind fun m => (mustL [45] m.2).bind fun l4 => (numberL 4 4 l4).bind fun y => (if y.2 = [] then some () else none).bind fun _ => some (y.1, m.1, d, (0 : Int), (0 : Int), (0 : Int), (0 : Int))) = if s1 = 45 ∧ s2 = 45 then parts d [a, b, c] r else none := by
  rw [must_is]
  by_cases h1 : s1 = 45
  · rw [if_pos h1, Option.bind_some, month3]
    unfold parts
    cases all? monthM [a, b, c] with
    | none => simp
    | some m =>
      simp only [Option.map_some, Option.bind_some]
      rw [must_is]
      by_cases h2 : s2 = 45
      · rw [if_pos h2, if_pos ⟨h1, h2⟩]
        simp only [Option.bind_some]
        unfold all?
        cases numberL 4 4 r with
        | none => rfl
        | some y =>
          simp only [Option.bind_some]
          by_cases hy : y.2 = []
          · rw [if_pos hy, if_pos hy]; rfl
          · rw [if_neg hy, if_neg hy]; rfl
      · rw [if_neg h2, if_neg (fun x => h2 x.2)]; rfl
  · rw [if_neg h1, if_neg (fun x => h1 x.1)]; rfl
theorem u8_int (x m : UInt8) : (x.toNat : Int) = (m.toNat : Int) ↔ x = m := by
  constructor
  · intro e; exact UInt8.toNat_inj.1 (by omega)
  · rintro rfl; rfl
/-- The document's Day at a text of eleven bytes. -/
theorem rday_j {k : Nat} (hk : 60 ≤ k) (a b s1 c1 c2 c3 s2 y1 y2 y3 y4 : UInt8) :
    haversackref09_Day.j0 k ⟨#[a, b, s1, c1, c2, c3, s2, y1, y2, y3, y4]⟩ = some (if s1 = 45 ∧ s2 = 45 then dayV (if isDig a = true ∧ isDig b = true then parts (10 * ((a.toNat : Int) - 48) + ((b.toNat : Int) - 48)) [c1, c2, c3] [y1, y2, y3, y4] else none) else (0, 11)) := by
  obtain ⟨k, rfl⟩ : ∃ n, k = n + 2 := ⟨k - 2, by omega⟩
  have L : List UInt8 := [a, b, s1, c1, c2, c3, s2, y1, y2, y3, y4]
  have sz : ByteArray.size ⟨#[a, b, s1, c1, c2, c3, s2, y1, y2, y3, y4]⟩ = 11 := rfl
  have b2 : bt ⟨#[a, b, s1, c1, c2, c3, s2, y1, y2, y3, y4]⟩ 2 = s1.toNat := rfl
  have b6 : bt ⟨#[a, b, s1, c1, c2, c3, s2, y1, y2, y3, y4]⟩ 6 = s2.toNat := rfl
  have x1 : ByteArray.extract ⟨#[a, b, s1, c1, c2, c3, s2, y1, y2, y3, y4]⟩ 7 11 = ⟨#[y1, y2, y3, y4]⟩ := ba_extract [a, b, s1, c1, c2, c3, s2, y1, y2, y3, y4] 7 11
  have x2 : ByteArray.extract ⟨#[a, b, s1, c1, c2, c3, s2, y1, y2, y3, y4]⟩ 3 6 = ⟨#[c1, c2, c3]⟩ := ba_extract [a, b, s1, c1, c2, c3, s2, y1, y2, y3, y4] 3 6
  have x3 : ByteArray.extract ⟨#[a, b, s1, c1, c2, c3, s2, y1, y2, y3, y4]⟩ 0 2 = ⟨#[a, b]⟩ := ba_extract [a, b, s1, c1, c2, c3, s2, y1, y2, y3, y4] 0 2
  have n1 : haversackref09_Number.f k ⟨#[y1, y2, y3, y4]⟩ = some (numV [y1, y2, y3, y4]) := rnum (by omega) [y1, y2, y3, y4] (by simp)
  have n2 : haversackref09_Month.f k ⟨#[c1, c2, c3]⟩ = some (monV [c1, c2, c3]) := rmonth (by omega) [c1, c2, c3] (by simp)
  have n3 : haversackref09_Number.f k ⟨#[a, b]⟩ = some (numV [a, b]) := rnum (by omega) [a, b] (by simp)
  have u1 := u8_int s1 45
  have u2 := u8_int s2 45
  have e45 : ((45 : UInt8).toNat : Int) = 45 := rfl
  rw [e45] at u1 u2
  have hj : ∀ x, haversackref09_Day.j1 (k + 1) x true = some (0, 11) := fun x => by simp only [haversackref09_Day.j1, if_true]
  have hf : haversackref09_Day.j1 (k + 1) ⟨#[a, b, s1, c1, c2, c3, s2, y1, y2, y3, y4]⟩ false = some (dayV (if isDig a = true ∧ isDig b = true then parts (10 * ((a.toNat : Int) - 48) + ((b.toNat : Int) - 48)) [c1, c2, c3] [y1, y2, y3, y4] else none)) := by
    simp only [haversackref09_Day.j1, sz, x1, x2, x3, n1, n2, n3, Option.bind_some, rthere_k]
    rw [if_neg (by decide), if_pos (by omega), if_pos (by omega), if_pos (by omega), if_pos (by omega), if_pos (by omega), rdays_k (by omega)]
    simp only [Option.bind_some]
    unfold parts
    rw [all_number, numV2]
    have hy4 : numV [y1, y2, y3, y4] = if [y1, y2, y3, y4].all isDig = true then valL [y1, y2, y3, y4] else -1 := by
      unfold numV
      by_cases h : [y1, y2, y3, y4].all isDig = true
      · rw [if_pos h, if_pos ⟨h, by simp⟩]
      · rw [if_neg h, if_neg (fun x => h x.1)]
    rw [hy4]
    by_cases g1 : isDig a = true ∧ isDig b = true
    · rw [if_pos g1, if_pos g1]
      rcases monV_bd [c1, c2, c3] with ⟨m, e, ev⟩ | ⟨e, ev⟩
      · rw [e, ev]
        simp only [Option.bind_some]
        by_cases g2 : [y1, y2, y3, y4].all isDig = true
        · have hlen : 4 ≤ [y1, y2, y3, y4].length ∧ [y1, y2, y3, y4].length ≤ 4 ∧ [y1, y2, y3, y4].all isDig = true := ⟨by simp, by simp, g2⟩
          rw [if_pos g2, if_pos hlen]
          simp only [Option.bind_some]
          unfold dayV
          simp only
          split
          · unfold days; rename_i hv; rw [if_pos hv]
          · rfl
        · have hlen : ¬ (4 ≤ [y1, y2, y3, y4].length ∧ [y1, y2, y3, y4].length ≤ 4 ∧ [y1, y2, y3, y4].all isDig = true) := fun x => g2 x.2.2
          have hv : ∀ m d : Int, vld (-1) m d = false := fun m d => vld_no (by omega)
          rw [if_neg g2, hv, if_neg hlen]
          rfl
      · rw [e, ev, vld_no (by omega)]
        rfl
    · rw [if_neg g1, if_neg g1, vld_no (by omega)]
      rfl
  simp only [haversackref09_Day.j0, sz, b2, b6]
  rw [if_pos (by omega), if_pos (by omega)]
  by_cases h1 : s1 = 45
  · rw [if_pos (u1.2 h1), if_pos (by omega)]
    by_cases h2 : s2 = 45
    · have : ((s2.toNat : Int) != 45) = false := by rw [u2.2 h2]; rfl
      have hs : s1 = 45 ∧ s2 = 45 := ⟨h1, h2⟩
      rw [this, hf, if_pos hs]
    · have : ((s2.toNat : Int) != 45) = true := by rw [bne_iff_ne]; exact fun e => h2 (u2.1 e)
      have hs : ¬ (s1 = 45 ∧ s2 = 45) := fun x => h2 x.2
      rw [this, hj, if_neg hs]
  · have hs : ¬ (s1 = 45 ∧ s2 = 45) := fun x => h1 x.1
    rw [if_neg (fun e => h1 (u1.1 e)), hj, if_neg hs]
theorem n12 (a b : UInt8) (r : List UInt8) : numberL 1 2 (a :: b :: r) = if isDig a = true then (if isDig b = true then some (10 * ((a.toNat : Int) - 48) + ((b.toNat : Int) - 48), r) else some ((a.toNat : Int) - 48, b :: r)) else none := by
  by_cases ha : isDig a = true
  · rw [if_pos ha]
    by_cases hb : isDig b = true
    · rw [if_pos hb]; simp [numberL, digs, valL, ha, hb]
    · rw [if_neg hb]; simp [numberL, digs, valL, ha, hb]
  · rw [if_neg ha]; simp [numberL, digs, ha]
theorem dayV_parts_none {d : Int} {mm yy : List UInt8} (h : yy.length ≠ 4) : parts d mm yy = none := by
  unfold parts
  rw [all_number, if_neg (by omega)]
  cases all? monthM mm <;> rfl
theorem rday_k {k : Nat} (hk : 100 ≤ k) (l : List UInt8) (hl : l.length ≤ 2000) : haversackref09_Day.f k ⟨l.toArray⟩ = some (dayV (dayL l)) := by
  by_cases h10 : l.length = 10
  · rcases l with _ | ⟨b, _ | ⟨s1, _ | ⟨c1, _ | ⟨c2, _ | ⟨c3, _ | ⟨s2, _ | ⟨y1, _ | ⟨y2, _ | ⟨y3, _ | ⟨y4, _ | ⟨x, q⟩⟩⟩⟩⟩⟩⟩⟩⟩⟩⟩ <;> try (simp at h10; done)
    have e1 : haversackref09_Day.f k ⟨#[b, s1, c1, c2, c3, s2, y1, y2, y3, y4]⟩ = haversackref09_Day.j0 k ⟨#[48, b, s1, c1, c2, c3, s2, y1, y2, y3, y4]⟩ := by
      unfold haversackref09_Day.f
      have sz : ByteArray.size ⟨#[b, s1, c1, c2, c3, s2, y1, y2, y3, y4]⟩ = 10 := rfl
      rw [sz, if_pos (by omega), if_pos (by omega)]
      rw [show (⟨#[48]⟩ : ByteArray) ++ ⟨#[b, s1, c1, c2, c3, s2, y1, y2, y3, y4]⟩ = ⟨#[48, b, s1, c1, c2, c3, s2, y1, y2, y3, y4]⟩ from ba_append [48] [b, s1, c1, c2, c3, s2, y1, y2, y3, y4]]
    refine Eq.trans e1 ((rday_j (by omega) 48 b s1 c1 c2 c3 s2 y1 y2 y3 y4).trans ?_)
    congr 1
    have e48 : isDig 48 = true := by decide
    have z48 : ((48 : UInt8).toNat : Int) = 48 := rfl
    simp only [e48, true_and, z48]
    unfold dayL
    rw [n12]
    by_cases hb : isDig b = true
    · rw [if_pos hb, if_pos hb]
      by_cases hs : isDig s1 = true
      · rw [if_pos hs]
        have h45 : s1 ≠ 45 := by rintro rfl; revert hs; decide
        rw [if_neg (fun x => h45 x.1)]
        simp only [Option.bind_some]
        rw [tail_day]
        split
        · rw [dayV_parts_none (by simp)]; rfl
        · rfl
      · rw [if_neg hs]
        simp only [Option.bind_some]
        rw [tail_day]
        have : 10 * ((48 : Int) - 48) + ((b.toNat : Int) - 48) = (b.toNat : Int) - 48 := by omega
        rw [this]
        split <;> rfl
    · rw [if_neg hb, if_neg hb]
      simp only [Option.bind_none]
      split <;> rfl
  · by_cases h11 : l.length = 11
    · rcases l with _ | ⟨a, _ | ⟨b, _ | ⟨s1, _ | ⟨c1, _ | ⟨c2, _ | ⟨c3, _ | ⟨s2, _ | ⟨y1, _ | ⟨y2, _ | ⟨y3, _ | ⟨y4, _ | ⟨x, q⟩⟩⟩⟩⟩⟩⟩⟩⟩⟩⟩⟩ <;> try (simp at h11; done)
      have e1 : haversackref09_Day.f k ⟨#[a, b, s1, c1, c2, c3, s2, y1, y2, y3, y4]⟩ = haversackref09_Day.j0 k ⟨#[a, b, s1, c1, c2, c3, s2, y1, y2, y3, y4]⟩ := by
        unfold haversackref09_Day.f
        have sz : ByteArray.size ⟨#[a, b, s1, c1, c2, c3, s2, y1, y2, y3, y4]⟩ = 11 := rfl
        rw [sz, if_neg (by omega)]
      refine Eq.trans e1 ((rday_j (by omega) a b s1 c1 c2 c3 s2 y1 y2 y3 y4).trans ?_)
      congr 1
      unfold dayL
      rw [n12]
      by_cases ha : isDig a = true
      · rw [if_pos ha]
        by_cases hb : isDig b = true
        · have hab : isDig a = true ∧ isDig b = true := ⟨ha, hb⟩
          rw [if_pos hb, if_pos hab]
          simp only [Option.bind_some]
          rw [tail_day]
          split <;> rfl
        · have hab : ¬ (isDig a = true ∧ isDig b = true) := fun x => hb x.2
          rw [if_neg hb, if_neg hab]
          simp only [Option.bind_some]
          rw [tail_day]
          have : dayV (if b = 45 ∧ c3 = 45 then parts ((a.toNat : Int) - 48) [s1, c1, c2] [s2, y1, y2, y3, y4] else none) = (0, 11) := by
            split
            · rw [dayV_parts_none (by simp)]; rfl
            · rfl
          rw [this]
          split <;> rfl
      · have hab : ¬ (isDig a = true ∧ isDig b = true) := fun x => ha x.1
        rw [if_neg ha, if_neg hab]
        simp only [Option.bind_none]
        split <;> rfl
    · have hn : dayL l = none := by
        cases h : dayL l with
        | none => rfl
        | some v => rcases day_len h with h | h <;> omega
      rw [hn]
      obtain ⟨k, rfl⟩ : ∃ n, k = n + 2 := ⟨k - 2, by omega⟩
      unfold haversackref09_Day.f
      rw [ba_size, if_neg (by omega)]
      simp only [haversackref09_Day.j0, ba_size]
      rw [if_neg (by omega)]
      simp only [haversackref09_Day.j1, if_true]
      rfl
theorem mail_k (l : List UInt8) (hl : l.length ≤ 2000) : date_Mail.f ⟨l.toArray⟩ = some (fin8 (mailL l)) := by
  have hread : date_read.f ⟨l.toArray⟩ 18 = readM mailL l := by
    unfold date_read.f
    rw [ba_size, if_pos (by omega), if_neg (by decide), if_neg (by decide), if_pos rfl]
  unfold date_Mail.f
  rw [hread, readM_is]
  rfl
theorem mails_k (k : Nat) (hk : 2200 ≤ k) (l t : List UInt8) : haversacklaw09_DateMails.f k ⟨l.toArray⟩ ⟨t.toArray⟩ = some true := by
  obtain ⟨k, rfl⟩ : ∃ n, k = n + 1 := ⟨k - 1, by omega⟩
  have jt : ∀ x y, haversacklaw09_DateMails.j0 (k + 1) x y true = some true := fun x y => by
    simp only [haversacklaw09_DateMails.j0, if_true]
    rw [alive_k (by omega)]; rfl
  unfold haversacklaw09_DateMails.f
  rw [ba_size, ba_size]
  by_cases h1 : (l.length : Int) > 2000
  · rw [if_pos h1, jt]
  · rw [if_neg h1]
    by_cases h2 : (t.length : Int) > 2000
    · rw [decide_eq_true h2, jt]
    · rw [decide_eq_false h2]
      simp only [haversacklaw09_DateMails.j0, mail_k l (by omega), rmail_k (k := k) (by omega) l (by omega), day_k (k := k) (by omega) t (by omega), rday_k (k := k) (by omega) t (by omega), Option.bind_some, haversacklaw09_no.f, Bool.false_eq_true, if_false, beq_self_eq_true, Bool.and_self, if_true]
      rw [alive_k (by omega)]; rfl
theorem DateMails : haversacklaw09_DateMails.Pure := by
  intro a b _ _
  exact ⟨2200, mails_k 2200 (by omega) a.data.toList b.data.toList⟩
end Go.Proofs.YtooknjpdflokkaaDoor.Pure
