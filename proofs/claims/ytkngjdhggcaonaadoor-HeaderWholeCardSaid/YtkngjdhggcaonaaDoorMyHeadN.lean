/-
  header: names, blocks and fields, the program's and the document's, over lists.
-/
import Derived.Test.YtkngjdhggcaonaaDoorMyHeadM
namespace Go.Proofs.YtkngjdhggcaonaaDoor.Pure
open Go.RowKit Go.Proofs.YtkngjdhggcaonaaDoor.PP Go.Proofs.YtkngjdhggcaonaaDoor.My Go.Proofs.YtkngjdhggcaonaaDoorW.PrintWords Go.Proofs.YtkngjdhggcaonaaDoorW.PrintLast
set_option linter.unusedVariables false
set_option linter.unusedSimpArgs false
/-- The bytes ahead of the first colon, if there is one. -/
def colL : List UInt8 → Option (List UInt8)
  | [] => none
  | c :: r => if c = 58 then some [] else (colL r).map (c :: ·)
theorem index_col : ∀ (s : List UInt8), (Lib.indexByte s 58 = -1 ∧ colL s = none) ∨ ∃ o : Nat, Lib.indexByte s 58 = (o : Int) ∧ o < s.length ∧ colL s = some (s.take o)
  | [] => .inl ⟨rfl, rfl⟩
  | c :: r => by
    by_cases h : c = 58
    · refine .inr ⟨0, ?_, by simp, ?_⟩
      · rw [Lib.indexByte, if_pos (by rw [h]; rfl)]; rfl
      · rw [colL, if_pos h]; rfl
    · have hb : ¬ (c == 58) = true := by simpa using h
      rcases index_col r with ⟨h1, h2⟩ | ⟨o, h1, h2, h3⟩
      · refine .inl ⟨?_, ?_⟩
        · rw [Lib.indexByte, if_neg hb, h1]; rfl
        · rw [colL, if_neg h, h2]; rfl
      · refine .inr ⟨o + 1, ?_, by simp; omega, ?_⟩
        · rw [Lib.indexByte, if_neg hb, h1, if_neg (by simp)]; omega
        · rw [colL, if_neg h, h3]; rfl
def goodC (c : UInt8) : Bool := !(decide (c < 33) || decide (c > 126))
theorem nameL_col : ∀ s, nameL s = (colL s).bind fun n => if n.all goodC = true then some n else none
  | [] => rfl
  | c :: r => by
    rw [nameL, colL, nameL_col r]
    by_cases h : c = 58
    · rw [if_pos h, if_pos h]; rfl
    · rw [if_neg h, if_neg h]
      by_cases h2 : c < 33 ∨ c > 126
      · rw [if_pos h2]
        cases hr : colL r with
        | none => rfl
        | some n =>
          have : goodC c = false := by unfold goodC; rcases h2 with h2 | h2 <;> simp [h2]
          simp [this]
      · rw [if_neg h2]
        cases hr : colL r with
        | none => rfl
        | some n =>
          have : goodC c = true := by unfold goodC; simpa using h2
          simp only [Option.bind_some, Option.map_some, List.all_cons, this, Bool.true_and]
          split <;> rfl
theorem scut_col (s : List UInt8) (hl : s.length ≤ 1000000000) : strings_Cut.f (B s) (⟨#[58]⟩ : ByteArray) = some (match colL s with | some n => (B n, B (s.drop (n.length + 1)), true) | none => (B s, B [], false)) := by
  unfold strings_Cut.f
  have e1 : ByteArray.size ⟨#[58]⟩ = 1 := rfl
  have e2 : (⟨#[58]⟩ : ByteArray).data.toList.getD 0 0 = 58 := rfl
  have e3 : (B s).data.toList = s := rfl
  rw [if_pos e1, e2, e3, if_pos (by rw [bS]; omega)]
  rcases index_col s with ⟨h1, h2⟩ | ⟨o, h1, h2, h3⟩
  · rw [h1, h2, if_neg (by decide)]
  · rw [h1, h3, if_pos (by omega), Int.toNat_natCast, bex, bex, bS]
    have : (s.take o).length = o := by simp; omega
    simp [this]
theorem name_l0 (s : List UInt8) (hl : s.length ≤ 1000000000) : ∀ (r p : List UInt8), p ++ r = s →
    Ev (fun k => header_name.l0 k (B s) (s.length : Int) ((p.length : Nat) : Int)) (if r.all goodC = true then (B s, true) else (B [], false))
  | [], p, hp => by
    have h1 : p = s := by simpa using hp
    subst h1
    exact Ev.now (fun k => by rw [header_name.l0, if_neg (by simp)]; rfl)
  | c :: r, p, hp => by
    have hsl : s.length = p.length + r.length + 1 := by rw [← hp]; simp; omega
    have hb : bt (B s) ((p.length : Nat) : Int) = (c.toNat : Int) := by
      rw [btn s _ (by omega)]
      congr 2
      simp only [← hp]
      rw [List.getElem_append_right (by simp)]
      simp
    have g1 : ((p.length : Nat) : Int) < (s.length : Int) := by omega
    have g2 : ((p.length : Nat) : Int) < ((B s).size : Int) := g1
    have g0 : (0 : Int) ≤ ((p.length : Nat) : Int) := by omega
    have w1 : wrap64 (((p.length : Nat) : Int) + 1) = (((p ++ [c]).length : Nat) : Int) := by
      rw [List.length_append]
      exact w64 (x := ((p.length : Nat) : Int) + 1) (by omega)
    have ih := name_l0 s hl r (p ++ [c]) (by rw [← hp]; simp)
    by_cases h2 : c < 33
    · have hg : goodC c = false := by unfold goodC; simp [h2]
      refine Ev.now (fun k => ?_)
      rw [header_name.l0, if_pos g1, if_pos g0, if_pos g2, hb, if_pos (t33 h2), List.all_cons, hg]
      rfl
    · by_cases h3 : c > 126
      · have hg : goodC c = false := by unfold goodC; simp [h3]
        refine Ev.now (fun k => ?_)
        rw [header_name.l0, if_pos g1, if_pos g0, if_pos g2, hb, if_neg (n33 h2), if_pos (t126 h3), List.all_cons, hg]
        rfl
      · have hg : goodC c = true := by unfold goodC; simp only [decide_eq_false h2, decide_eq_false h3]; rfl
        refine Ev.go (fun k => by rw [header_name.l0, if_pos g1, if_pos g0, if_pos g2, hb, if_neg (n33 h2), if_neg (n126 h3), w1]) ?_
        rw [List.all_cons, hg, Bool.true_and]
        exact ih
theorem name_ev (s : List UInt8) (hl : s.length ≤ 1000000000) : Ev (fun k => header_name.f k (B s)) (B (nmL s), !(nmL s).isEmpty) := by
  refine Ev.same (fun k => by rw [header_name.f, scut_col s hl]) ?_
  unfold nmL
  rw [nameL_col]
  have hj : ∀ x, Ev (fun k => header_name.j0 k x true) (B [], false) := fun x => Ev.now (fun k => by rw [header_name.j0, if_pos rfl])
  cases h : colL s with
  | none =>
    simp only [Option.bind_some, Option.bind_none, if_neg (show ¬ false = true by decide)]
    exact hj _
  | some n =>
    simp only [Option.bind_some, if_true, btl]
    by_cases h0 : n = []
    · subst h0
      have e1 : (([] : List UInt8) == []) = true := rfl
      have e2 : ((if ([] : List UInt8).all goodC = true then some ([] : List UInt8) else none).getD []) = [] := rfl
      rw [e2, e1]
      exact hj _
    · have e1 : (n == []) = false := by simpa using h0
      have hn : n.length ≤ 1000000000 := by
        rcases index_col s with ⟨_, h2⟩ | ⟨o, _, h2, h3⟩
        · rw [h2] at h; cases h
        · rw [h3] at h
          injection h with h
          rw [← h]; simp; omega
      rw [e1]
      refine Ev.go (fun k => by rw [header_name.j0, if_neg (by decide), bS]) ?_
      have := name_l0 n hn n [] rfl
      by_cases hg : n.all goodC = true
      · rw [if_pos hg] at this ⊢
        have e2 : (!n.isEmpty) = true := by simp [h0]
        simp only [Option.getD_some, e2]
        exact this
      · rw [if_neg hg] at this ⊢
        exact this
/-! ### Blocks -/
abbrev P2 := List UInt8 × List UInt8
def addLast (out : List P2) (l : List UInt8) : List P2 := match out.getLast? with
  | none => []
  | some p => out.dropLast ++ [(p.1, p.2 ++ l)]
def contL (l : List UInt8) : Bool := decide (l.head? = some 32) || decide (l.head? = some 9)
def blkL : List (List UInt8) → Bool → List P2 → List P2
  | [], _, out => out
  | l :: ls, op, out => if contL l = true then (if op = true then blkL ls op (addLast out l) else blkL ls op out)
    else if nmL l = [] then blkL ls false out else blkL ls true (out ++ [(nmL l, l)])
abbrev hB (l : List P2) : List S55 := l.map fun p => ⟨B p.1, B p.2⟩
abbrev rB (l : List P2) : List S59 := l.map fun p => ⟨B p.1, B p.2⟩
def tot (out : List P2) : Nat := (out.map (fun p => p.2.length)).sum
theorem addLast_snoc (o : List P2) (n m l : List UInt8) : addLast (o ++ [(n, m)]) l = o ++ [(n, m ++ l)] := by
  unfold addLast
  simp
theorem tot_snoc (o : List P2) (p : P2) : tot (o ++ [p]) = tot o + p.2.length := by
  unfold tot
  simp
theorem snoc2 (l : List P2) : l = [] ∨ ∃ m n k, l = m ++ [(n, k)] := by
  rcases List.eq_nil_or_concat l with h | ⟨m, d, h⟩
  · exact .inl h
  · exact .inr ⟨m, d.1, d.2, by simpa using h⟩
theorem cont_head (c : UInt8) (r : List UInt8) : contL (c :: r) = true ↔ (c = 32 ∨ c = 9) := by
  unfold contL
  simp
theorem blocks_ev : ∀ (n : Nat) (s : List UInt8) (out : List P2) (op : Bool), s.length ≤ n → s.length + tot out ≤ 1000000000 → out.length + s.length ≤ 1000000000 → (op = true → out ≠ []) →
    Ev (fun k => header_blocks.l0 k (B s) (hB out) op) (hB (blkL (linesL s) op out)) := by
  intro n
  induction n with
  | zero =>
    intro s out op hs _ _ _
    obtain rfl : s = [] := List.length_eq_zero_iff.1 (by omega)
    exact Ev.now (fun k => by rw [header_blocks.l0, if_pos (btl [])]; rfl)
  | succ n ih =>
    intro s out op hs ht ho hop
    by_cases h0 : s = []
    · subst h0
      exact Ev.now (fun k => by rw [header_blocks.l0, if_pos (btl [])]; rfl)
    · rw [linesL_cons s h0]
      have hbt : ¬ (B s).toList = ([] : List UInt8) := by rw [btl]; exact h0
      have hle := lineL_len s
      obtain ⟨l, hl⟩ : ∃ l, l = (lineL s).1 := ⟨_, rfl⟩
      obtain ⟨t, hte⟩ : ∃ t, t = (lineL s).2 := ⟨_, rfl⟩
      have hl0 : l ≠ [] := by rw [hl]; exact lineL_ne s h0
      rw [← hl, ← hte] at hle ⊢
      have hline : header_line.f (B s) = some (B l, B t) := by rw [hl, hte]; exact line_f s (by omega)
      cases l with
      | nil => exact absurd rfl hl0
      | cons c r =>
        simp only [List.length_cons] at hle
        have gz : (0 : Int) < ((B (c :: r)).size : Int) := by rw [bS]; simp only [List.length_cons]; omega
        have hb : bt (B (c :: r)) 0 = (c.toNat : Int) := btn (c :: r) 0 (by simp)
        have hj : ∀ b, Ev (fun k => header_blocks.j1 k (B t) (hB out) op (B (c :: r)) b) (hB (blkL ((c :: r) :: linesL t) op out)) → ((c = 32 ∨ c = 9) ↔ b = true) → True := fun _ _ _ => trivial
        have step : ∀ k, header_blocks.l0 (k + 1) (B s) (hB out) op = header_blocks.j1 k (B t) (hB out) op (B (c :: r)) (contL (c :: r)) := by
          intro k
          rw [header_blocks.l0, if_neg hbt, hline]
          simp only [Option.bind_some]
          rw [if_pos gz, hb]
          by_cases h32 : c = 32
          · rw [if_pos (t32 h32), (cont_head c r).2 (.inl h32)]
          · rw [if_neg (n32 h32)]
            congr 1
            rw [Bool.eq_iff_iff, cont_head]
            simp only [beq_iff_eq, u9]
            exact ⟨fun h => .inr h, fun h => h.resolve_left h32⟩
        refine Ev.go step ?_
        rw [blkL]
        by_cases hc : contL (c :: r) = true
        · rw [if_pos hc, hc]
          cases op with
          | false =>
            rw [if_neg (by decide)]
            refine Ev.go (fun k => by rw [header_blocks.j1, if_pos rfl, if_neg (by decide)]) ?_
            exact ih t out false (by omega) (by omega) (by omega) (by simp)
          | true =>
            rw [if_pos rfl]
            rcases snoc2 out with h | ⟨o, nm, m, rfl⟩
            · exact absurd h (hop rfl)
            · have hlen : (hB (o ++ [(nm, m)])).length = o.length + 1 := by simp
              have w1 : wrap64 (((hB (o ++ [(nm, m)])).length : Int) - 1) = ((o.length : Nat) : Int) := by
                rw [hlen]
                simp only [List.length_append] at ho
                have := w64 (x := ((o.length + 1 : Nat) : Int) - 1) (by simp at ho; omega)
                rw [this]; omega
              have hrd : rd_T55 (hB (o ++ [(nm, m)])) ((o.length : Nat) : Int) = ⟨B nm, B m⟩ := by
                unfold rd_T55
                rw [Int.toNat_natCast]
                simp [List.getD_eq_getElem?_getD]
              have hset : (hB (o ++ [(nm, m)])).set o.length ⟨B nm, B m ++ B (c :: r)⟩ = hB (addLast (o ++ [(nm, m)]) (c :: r)) := by
                rw [addLast_snoc, bcat]
                simp
              rw [tot_snoc] at ht
              simp only at ht
              have gs : (B m).size + (B (c :: r)).size ≤ 9223372036854775807 := by rw [bS, bS]; simp only [List.length_cons]; omega
              refine Ev.go (fun k => by rw [header_blocks.j1, if_pos rfl, if_pos rfl, w1, if_pos (by omega), if_pos (by rw [hlen]; omega), hrd, if_pos gs, Int.toNat_natCast, hset]) ?_
              refine ih t _ true (by omega) ?_ ?_ ?_
              · rw [addLast_snoc, tot_snoc]; simp only [List.length_append, List.length_cons]; omega
              · rw [addLast_snoc]; simp only [List.length_append, List.length_cons] at ho ⊢; simp only [List.length_nil] at ho ⊢; omega
              · rw [addLast_snoc]; simp
        · have hc' : contL (c :: r) = false := by simpa using hc
          rw [if_neg hc, hc']
          refine Ev.go (fun k => by rw [header_blocks.j1, if_neg (by decide)]) ?_
          refine Ev.bd (name_ev (c :: r) (by simp only [List.length_cons]; omega)) ?_
          by_cases hn : nmL (c :: r) = []
          · rw [if_pos hn]
            simp only [hn, List.isEmpty_nil, Bool.not_true, Bool.false_eq_true, if_false]
            exact ih t out false (by omega) (by omega) (by omega) (by simp)
          · rw [if_neg hn]
            have hne : (!(nmL (c :: r)).isEmpty) = true := by simp [hn]
            simp only [hne, if_true]
            rw [show hB out ++ [(⟨B (nmL (c :: r)), B (c :: r)⟩ : S55)] = hB (out ++ [(nmL (c :: r), c :: r)]) by simp]
            simp only [if_pos (show (hB out).length < 4398046511104 by rw [List.length_map]; omega)]
            refine ih t _ true (by omega) ?_ ?_ (by simp)
            · rw [tot_snoc]; simp only [List.length_cons]; omega
            · simp only [List.length_append, List.length_cons, List.length_nil]; omega
theorem blocks_f_ev (s : List UInt8) (hl : s.length ≤ 1000000000) : Ev (fun k => header_blocks.f k (B s)) (hB (blkL (linesL s) false [])) :=
  blocks_ev s.length s [] false (Nat.le_refl _) (by simpa [tot] using hl) (by simpa using hl) (by simp)
end Go.Proofs.YtkngjdhggcaonaaDoor.Pure
