import Derived.Test.YtkngjdhggcaonaaDoorPPx38
import Derived.Test.YtkngjdhggcaonaaDoorMyHeadG
import Derived.Test.YtkngjdhggcaonaaDoorStmtHeaderSplits
namespace Go.Proofs.YtkngjdhggcaonaaDoor.Pure
open Go.RowKit Go.Proofs.YtkngjdhggcaonaaDoor.PP Go.Proofs.YtkngjdhggcaonaaDoor.My Go.Proofs.YtkngjdhggcaonaaDoorW.PrintWords Go.Proofs.YtkngjdhggcaonaaDoorW.PrintLast
set_option linter.unusedVariables false
set_option linter.unusedSimpArgs false
theorem mns_le (a b : Int) : mn a b ≤ b ∧ mn a b ≤ a ∧ (mn a b = a ∨ mn a b = b) := by
  unfold mn
  split <;> omega
theorem fews_ev (names : List (List UInt8)) : ∃ b, Ev (fun k => haversacklaw10_few.f k (Bs names)) b ∧ (b = true → names.length ≤ 30) := by
  have key : ∀ (n i : Nat) (x : Int), 32 - i ≤ n → i ≤ 31 → 0 ≤ x → x ≤ 2000 * (i : Int) → ∃ b, Ev (fun k => haversacklaw10_few.l0 k (Bs names) x (i : Int)) b ∧ (b = true → names.length ≤ 30) := by
    intro n
    induction n with
    | zero => intro i x h1 h2; omega
    | succ n ih =>
      intro i x h1 h2 h3 h4
      have stop : ∃ b, (if ((Bs names).length : Int) ≤ 30 then some (decide (x ≤ 1500)) else some false) = some b ∧ (b = true → names.length ≤ 30) := by
        by_cases h : ((Bs names).length : Int) ≤ 30
        · refine ⟨_, if_pos h, fun _ => ?_⟩
          rw [List.length_map] at h
          omega
        · exact ⟨false, if_neg h, fun h => by cases h⟩
      obtain ⟨b, hb, hbn⟩ := stop
      by_cases hp : (i : Int) < ((Bs names).length : Int)
      · by_cases h30 : (i : Int) ≤ 30
        · have g0 : (0 : Int) ≤ (i : Int) := by omega
          have hm := mns_le ((rdOf ByteArray.empty (Bs names) (i : Int)).size : Int) 2000
          obtain ⟨y, hy⟩ : ∃ y, y = mn ((rdOf ByteArray.empty (Bs names) (i : Int)).size : Int) 2000 := ⟨_, rfl⟩
          rw [← hy] at hm
          have hy0 : 0 ≤ y := by omega
          obtain ⟨b', hb', hn'⟩ := ih (i + 1) (x + y) (by omega) (by omega) (by omega) (by omega)
          have w1 : Wp ((i : Int) + 1) ((i + 1 : Nat) : Int) := ⟨w64 (x := (i : Int) + 1) (by omega)⟩
          have w2 : Wp (x + y) (x + y) := ⟨w64 (x := x + y) (by omega)⟩
          exact ⟨b', Ev.go (fun k => by rw [haversacklaw10_few.l0, if_pos hp, if_pos h30, if_pos g0, ← hy, w2.e, w1.e]) hb', hn'⟩
        · exact ⟨b, Ev.now (fun k => by rw [haversacklaw10_few.l0, if_pos hp, if_neg h30, hb]), hbn⟩
      · exact ⟨b, Ev.now (fun k => by rw [haversacklaw10_few.l0, if_neg hp, hb]), hbn⟩
  exact key 32 0 0 (by omega) (by omega) (by omega) (by omega)
/-! ### What is kept of a text's lines -/
def kpL : List (List UInt8) → Bool → List (List UInt8)
  | [], _ => []
  | l :: ls, op => if contL l = true then (if op = true then l :: kpL ls op else kpL ls op) else if nmL l = [] then kpL ls false else l :: kpL ls true
theorem kp_sub : ∀ (ls : List (List UInt8)) (op : Bool), ∀ l ∈ kpL ls op, l ∈ ls
  | [], _, l, h => h
  | x :: ls, op, l, h => by
    rw [kpL] at h
    split at h
    · split at h
      · rcases List.mem_cons.1 h with rfl | h
        · simp
        · exact List.mem_cons_of_mem _ (kp_sub ls op l h)
      · exact List.mem_cons_of_mem _ (kp_sub ls op l h)
    · split at h
      · exact List.mem_cons_of_mem _ (kp_sub ls false l h)
      · rcases List.mem_cons.1 h with rfl | h
        · simp
        · exact List.mem_cons_of_mem _ (kp_sub ls true l h)
def catB (l : List P2) : List UInt8 := l.flatMap fun p => p.2
theorem catB_snoc (o : List P2) (p : P2) : catB (o ++ [p]) = catB o ++ p.2 := by
  unfold catB
  simp
theorem cat_kp : ∀ (ls : List (List UInt8)) (op : Bool) (out : List P2), (op = true → out ≠ []) → catB (blkL ls op out) = catB out ++ (kpL ls op).flatten
  | [], op, out, h => by simp [blkL, kpL]
  | l :: ls, op, out, h => by
    rw [blkL, kpL]
    by_cases hc : contL l = true
    · rw [if_pos hc, if_pos hc]
      cases op with
      | false => rw [if_neg (by decide), if_neg (by decide), cat_kp ls false out (by simp)]
      | true =>
        rw [if_pos rfl, if_pos rfl]
        rcases snoc2 out with h0 | ⟨o, n, m, rfl⟩
        · exact absurd h0 (h rfl)
        · rw [addLast_snoc, cat_kp ls true _ (by simp), catB_snoc, catB_snoc]
          simp
    · rw [if_neg hc, if_neg hc]
      by_cases hn : nmL l = []
      · rw [if_pos hn, if_pos hn, cat_kp ls false out (by simp)]
      · rw [if_neg hn, if_neg hn, cat_kp ls true _ (by simp), catB_snoc]
        simp
theorem blk_kp : ∀ (ls : List (List UInt8)) (op op' : Bool) (out : List P2), (op = true → op' = true) → blkL (kpL ls op) op' out = blkL ls op out
  | [], op, op', out, h => rfl
  | l :: ls, op, op', out, h => by
    rw [kpL, blkL]
    by_cases hc : contL l = true
    · rw [if_pos hc, if_pos hc]
      cases op with
      | false => rw [if_neg (by decide), if_neg (by decide), blk_kp ls false op' out (by simp)]
      | true =>
        obtain rfl := h rfl
        rw [if_pos rfl, if_pos rfl, blkL, if_pos hc, if_pos rfl, blk_kp ls true true _ (by simp)]
    · rw [if_neg hc, if_neg hc]
      by_cases hn : nmL l = []
      · rw [if_pos hn, if_pos hn, blk_kp ls false op' out (by simp)]
      · rw [if_neg hn, if_neg hn, blkL, if_neg hc, if_neg hn, blk_kp ls true true _ (by simp)]
theorem lines_whole : ∀ (s : List UInt8), (s = [] ∨ s.getLast? = some 10) → ∀ l ∈ linesL s, ∃ p, 10 ∉ p ∧ l = p ++ [10]
  | [], _, l, h => by simp [linesL] at h
  | c :: r, hl, l, h => by
    have hr : r = [] ∨ r.getLast? = some 10 := by
      rcases hl with hl | hl
      · cases hl
      · cases r with
        | nil => exact .inl rfl
        | cons d r => right; simpa using hl
    rw [linesL] at h
    by_cases hc : c = 10
    · rw [if_pos hc] at h
      rcases List.mem_cons.1 h with rfl | h
      · exact ⟨[], by simp, rfl⟩
      · exact lines_whole r hr l h
    · rw [if_neg hc] at h
      cases hx : linesL r with
      | nil =>
        exfalso
        have hf := linesL_flat r
        rw [hx] at hf
        have hr0 : r = [] := hf.symm
        subst hr0
        rcases hl with hl | hl
        · cases hl
        · simp at hl; exact hc hl
      | cons a b =>
        rw [hx] at h
        have ih := lines_whole r hr
        rw [hx] at ih
        rcases List.mem_cons.1 h with rfl | h
        · obtain ⟨p, h1, h2⟩ := ih a (by simp)
          exact ⟨c :: p, by simp [h1, Ne.symm hc], by simp [h2]⟩
        · exact ih l (List.mem_cons_of_mem _ h)
theorem lines_of : ∀ (ls : List (List UInt8)) (t : List UInt8), (∀ l ∈ ls, ∃ p, 10 ∉ p ∧ l = p ++ [10]) → linesL (ls.flatten ++ t) = ls ++ linesL t
  | [], t, _ => rfl
  | l :: ls, t, h => by
    obtain ⟨p, h1, h2⟩ := h l (by simp)
    rw [h2, List.flatten_cons, List.append_assoc, List.append_assoc, List.singleton_append, linesL_line p _ h1, lines_of ls t (fun x hx => h x (List.mem_cons_of_mem _ hx))]
    rfl
theorem blk_end (e : List UInt8) (he : e = [13, 10]) : ∀ (ls : List (List UInt8)) (op : Bool) (out : List P2), blkL (ls ++ [e]) op out = blkL ls op out
  | [], op, out => by
    have h1 : contL e = false := by rw [he]; rfl
    have h2 : nmL e = [] := by rw [he]; rfl
    simp [blkL, h1, h2]
  | l :: ls, op, out => by
    rw [List.cons_append, blkL, blkL]
    simp only [blk_end e he ls]
theorem keepB_cons (nt : Bool) (names : List (List UInt8)) (p : P2) (l : List P2) : keepB nt names (p :: l) = if amL p.1 names = nt then keepB nt names l else p.2 ++ keepB nt names l := by
  unfold keepB
  rw [List.filter_cons]
  by_cases h : amL p.1 names = nt
  · rw [if_pos h, if_neg (by simp [h])]
  · rw [if_neg h, if_pos (by simp [h]), List.flatMap_cons]
theorem catB_cons (p : P2) (l : List P2) : catB (p :: l) = p.2 ++ catB l := by
  unfold catB
  rw [List.flatMap_cons]
theorem keep_all : ∀ l : List P2, keepB true [] l = catB l
  | [] => rfl
  | p :: l => by
    rw [keepB_cons, catB_cons, keep_all l, if_neg (by simp [amL])]
theorem keep_none : ∀ l : List P2, keepB false [] l = []
  | [] => rfl
  | p :: l => by
    rw [keepB_cons, keep_none l, if_pos (by simp [amL])]
theorem keep_two (names : List (List UInt8)) : ∀ l : List P2, (keepB false names l).length + (keepB true names l).length = (catB l).length
  | [] => rfl
  | p :: l => by
    have ih := keep_two names l
    rw [keepB_cons, keepB_cons, catB_cons, List.length_append]
    cases amL p.1 names with
    | false => rw [if_pos rfl, if_neg (by decide), List.length_append]; omega
    | true => rw [if_neg (by decide), if_pos rfl, List.length_append]; omega
/-- What has all fields' lines, has them again. -/
theorem only_again (s : List UInt8) (h : s = [] ∨ s.getLast? = some 10) : onlyL true [] (onlyL true [] s) = onlyL true [] s := by
  have hk : keepB true [] (blkL (linesL s) false []) = (kpL (linesL s) false).flatten := by
    rw [keep_all, cat_kp _ _ _ (by simp)]
    rfl
  have hl : linesL (onlyL true [] s) = kpL (linesL s) false ++ [[13, 10]] := by
    unfold onlyL
    rw [hk, lines_of _ _ (fun l hm => lines_whole s h l (kp_sub _ _ l hm))]
    rfl
  rw [onlyL, hl, blk_end _ rfl, blk_kp _ _ _ _ (fun h => h)]
  rfl
theorem only_len (nt : Bool) (names : List (List UInt8)) (s : List UInt8) (hl : s.length ≤ 1000000) : (onlyL nt names s).length ≤ 1000002 := by
  unfold onlyL
  have h := keepB_len nt names (blkL (linesL s) false [])
  have h2 := (blk_tot (linesL s) false []).1
  rw [linesL_flat] at h2
  have h3 : tot [] = 0 := rfl
  rw [List.length_append]
  simp only [List.length_cons, List.length_nil]
  omega
theorem HeaderSplits : haversacklaw10_HeaderSplits.Pure2 := by
  intro a0 l1 _ _ hz
  obtain ⟨s, rfl⟩ := isB a0
  obtain ⟨names, rfl⟩ := isBs l1
  have hnm : ∀ x ∈ names, x.length ≤ 9223372036854775807 := by
    intro x hx
    have := hz (B x) (List.mem_map.2 ⟨x, hx, rfl⟩)
    rw [bS] at this
    unfold maxLen at this
    omega
  clear hz
  have yes : Ev (fun k => haversacklaw10_HeaderSplits.j0 k (B s) (Bs names) true) true :=
    Ev.go (fun k => by rw [haversacklaw10_HeaderSplits.j0, if_pos rfl]) (Ev.bd alive_ev (Ev.ret true))
  have no : s.length ≤ 4000 → names.length ≤ 30 → Ev (fun k => haversacklaw10_HeaderSplits.j0 k (B s) (Bs names) false) true := by
    intro hs hn
    have O := fun nt ns h1 h2 => Only_f_ev s (by omega) nt ns h1 h2
    have e0 : (Bs [] : List ByteArray) = [] := rfl
    have o1 := O true [] (by simp) (by simp)
    have o2 := O false names (by omega) hnm
    have o3 := O true names (by omega) hnm
    have o4 := O false [] (by simp) (by simp)
    rw [e0] at o1 o4
    have la := only_len true [] s (by omega)
    have lb := only_len false names s (by omega)
    have lc := only_len true names s (by omega)
    have o5 := Only_f_ev (onlyL true [] s) (by omega) true [] (by simp) (by simp)
    rw [e0] at o5
    refine Ev.go (fun k => by rw [haversacklaw10_HeaderSplits.j0, if_neg (by decide)]) ?_
    refine Ev.bd o1 ?_
    refine Ev.bd o2 ?_
    refine Ev.bd o3 ?_
    have w1 : Wp (((onlyL false names s).length : Int) + ((onlyL true names s).length : Int)) (((onlyL false names s).length + (onlyL true names s).length : Nat) : Int) := ⟨by
      rw [w64 (x := ((onlyL false names s).length : Int) + ((onlyL true names s).length : Int)) (by omega)]; omega⟩
    have two : (onlyL false names s).length + (onlyL true names s).length = (onlyL true [] s).length + 2 := by
      unfold onlyL
      rw [keep_all]
      simp only [List.length_append, List.length_cons, List.length_nil]
      have := keep_two names (blkL (linesL s) false [])
      omega
    have w2 : Wp ((((onlyL false names s).length + (onlyL true names s).length : Nat) : Int) - 2) ((onlyL true [] s).length : Int) := ⟨by
      rw [w64 (x := (((onlyL false names s).length + (onlyL true names s).length : Nat) : Int) - 2) (by omega)]; omega⟩
    have hfour : (B (onlyL false [] s)).toList = [13, 10] := by
      rw [btl]
      unfold onlyL
      rw [keep_none]; rfl
    simp only [bS, w1.e, w2.e, if_true]
    refine Ev.bd o4 ?_
    simp only [if_pos hfour]
    refine Ev.bd o5 ?_
    by_cases hw : s = [] ∨ s.getLast? = some 10
    · have e : ((B (onlyL true [] (onlyL true [] s))).toList != (B (onlyL true [] s)).toList) = false := by rw [only_again s hw]; simp
      rw [e]
      exact Ev.go (fun k => by rw [haversacklaw10_HeaderSplits.j1, if_neg (by decide)]) (Ev.bd alive_ev (Ev.ret true))
    · generalize ((B (onlyL true [] (onlyL true [] s))).toList != (B (onlyL true [] s)).toList) = q
      cases q with
      | false => exact Ev.go (fun k => by rw [haversacklaw10_HeaderSplits.j1, if_neg (by decide)]) (Ev.bd alive_ev (Ev.ret true))
      | true =>
        rcases snoc_or s with h | ⟨m, d, h⟩
        · exact absurd (.inl h) hw
        · have hd : ¬ d = 10 := fun e => hw (.inr (by rw [h, e]; simp))
          have hml : s.length = m.length + 1 := by rw [h]; simp
          have hb : bt (B s) ((m.length : Nat) : Int) = (d.toNat : Int) := by
            rw [btn s _ (by omega)]
            simp [h]
          have gz : ¬ ((B s).size : Int) = 0 := by rw [bS]; omega
          have g0 : (0 : Int) ≤ ((m.length : Nat) : Int) := by omega
          have g1 : ((m.length : Nat) : Int) < ((B s).size : Int) := by rw [bS]; omega
          have w3 : Wp (((B s).size : Int) - 1) ((m.length : Nat) : Int) := ⟨by
            rw [bS, hml, w64 (x := ((m.length + 1 : Nat) : Int) - 1) (by omega)]; omega⟩
          exact Ev.go (fun k => by rw [haversacklaw10_HeaderSplits.j1, if_pos rfl, if_neg gz, w3.e, if_pos g0, if_pos g1, hb, if_neg (n10 hd)]) (Ev.bd alive_ev (Ev.ret true))
  have main : Ev (fun k => haversacklaw10_HeaderSplits.f k (B s) (Bs names)) true := by
    by_cases h1 : ((B s).size : Int) > 4000
    · exact Ev.same (fun k => by rw [haversacklaw10_HeaderSplits.f, if_pos h1]) yes
    · refine Ev.same (fun k => by rw [haversacklaw10_HeaderSplits.f, if_neg h1]) ?_
      obtain ⟨b, hb, hbn⟩ := fews_ev names
      refine Ev.bd hb ?_
      rw [bS] at h1
      cases b with
      | false => exact yes
      | true => exact no (by omega) (hbn rfl)
  obtain ⟨K, hK⟩ := main
  exact ⟨K, hK K (Nat.le_refl _)⟩
end Go.Proofs.YtkngjdhggcaonaaDoor.Pure
