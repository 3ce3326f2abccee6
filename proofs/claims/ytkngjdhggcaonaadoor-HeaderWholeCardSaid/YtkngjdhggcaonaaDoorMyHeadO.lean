/-
  header: the document's blocks, and fields, over lists.
-/
import Derived.Test.YtkngjdhggcaonaaDoorMyHeadN
namespace Go.Proofs.YtkngjdhggcaonaaDoor.Pure
open Go.RowKit Go.Proofs.YtkngjdhggcaonaaDoor.PP Go.Proofs.YtkngjdhggcaonaaDoor.My Go.Proofs.YtkngjdhggcaonaaDoorW.PrintWords Go.Proofs.YtkngjdhggcaonaaDoorW.PrintLast
set_option linter.unusedVariables false
set_option linter.unusedSimpArgs false
theorem RBlocks_ev (L : List (List UInt8)) (hL : L.length ≤ 1000000000) (hF : L.flatten.length ≤ 1000000000) (hne : ∀ l ∈ L, l ≠ []) : ∀ (ls a : List (List UInt8)) (out : List P2) (op : Bool), a ++ ls = L → ls.flatten.length + tot out ≤ 1000000000 → out.length ≤ a.length → (op = true → out ≠ []) →
    Ev (fun k => haversackref10_Blocks.l0 k (Bs L) (rB out) op ((a.length : Nat) : Int)) (rB (blkL ls op out))
  | [], a, out, op, ha, ht, ho, hop => by
    have h1 : a = L := by simpa using ha
    subst h1
    exact Ev.now (fun k => by rw [haversackref10_Blocks.l0, if_neg (by simp)]; rfl)
  | l :: ls, a, out, op, ha, ht, ho, hop => by
    have hLl : L.length = a.length + ls.length + 1 := by rw [← ha]; simp; omega
    have hl0 : l ≠ [] := hne l (by rw [← ha]; simp)
    rw [List.flatten_cons, List.length_append] at ht
    have g1 : ((a.length : Nat) : Int) < ((Bs L).length : Int) := by rw [List.length_map]; omega
    have g0 : (0 : Int) ≤ ((a.length : Nat) : Int) := by omega
    have hrd : rdOf ByteArray.empty (Bs L) ((a.length : Nat) : Int) = B l := by
      rw [rdBs L _ (by omega)]
      congr 1
      simp [← ha]
    have w2 : wrap64 (((a.length : Nat) : Int) + 1) = (((a ++ [l]).length : Nat) : Int) := by
      rw [List.length_append]
      exact w64 (x := ((a.length : Nat) : Int) + 1) (by omega)
    have ih := fun out' op' => RBlocks_ev L hL hF hne ls (a ++ [l]) out' op' (by rw [← ha]; simp)
    cases l with
    | nil => exact absurd rfl hl0
    | cons c r =>
      simp only [List.length_cons] at ht
      have gz : (0 : Int) < ((B (c :: r)).size : Int) := by rw [bS]; simp only [List.length_cons]; omega
      have hb : bt (B (c :: r)) 0 = (c.toNat : Int) := btn (c :: r) 0 (by simp)
      have step : ∀ k, haversackref10_Blocks.l0 (k + 1) (Bs L) (rB out) op ((a.length : Nat) : Int) = haversackref10_Blocks.j1 k (Bs L) (rB out) op ((a.length : Nat) : Int) (contL (c :: r)) := by
        intro k
        rw [haversackref10_Blocks.l0, if_pos g1, if_pos g0, hrd, if_pos gz, hb]
        by_cases h32 : c = 32
        · rw [if_pos (t32 h32), (cont_head c r).2 (.inl h32)]
        · rw [if_neg (n32 h32)]
          congr 1
          rw [Bool.eq_iff_iff, cont_head]
          simp only [beq_iff_eq, u9]
          exact ⟨fun h => .inr h, fun h => h.resolve_left h32⟩
      refine Ev.go step ?_
      rw [blkL]
      by_cases hc : contL (c :: r) = true
      · rw [if_pos hc, hc]
        cases op with
        | false =>
          rw [if_neg (by decide)]
          refine Ev.go (fun k => by rw [haversackref10_Blocks.j1, if_pos rfl, if_neg (by decide), w2]) ?_
          exact ih out false (by omega) (by simp; omega) (by simp)
        | true =>
          rw [if_pos rfl]
          rcases snoc2 out with h | ⟨o, nm, m, rfl⟩
          · exact absurd h (hop rfl)
          · have hlen : (rB (o ++ [(nm, m)])).length = o.length + 1 := by simp
            simp only [List.length_append, List.length_cons, List.length_nil] at ho
            have w1 : wrap64 (((rB (o ++ [(nm, m)])).length : Int) - 1) = ((o.length : Nat) : Int) := by
              rw [hlen]
              have := w64 (x := ((o.length + 1 : Nat) : Int) - 1) (by omega)
              rw [this]; omega
            have hrd2 : rd_T59 (rB (o ++ [(nm, m)])) ((o.length : Nat) : Int) = ⟨B nm, B m⟩ := by
              unfold rd_T59
              rw [Int.toNat_natCast]
              simp [List.getD_eq_getElem?_getD]
            have hset : (rB (o ++ [(nm, m)])).set o.length ⟨B nm, B m ++ B (c :: r)⟩ = rB (addLast (o ++ [(nm, m)]) (c :: r)) := by
              rw [addLast_snoc, bcat]
              simp
            rw [tot_snoc] at ht
            simp only at ht
            have gs : (B m).size + (B (c :: r)).size ≤ 9223372036854775807 := by rw [bS, bS]; simp only [List.length_cons]; omega
            refine Ev.go (fun k => by rw [haversackref10_Blocks.j1, if_pos rfl, if_pos rfl, w1, if_pos (by omega), if_pos (by rw [hlen]; omega), if_pos g0, if_pos g1, hrd2, hrd, if_pos gs, Int.toNat_natCast, hset, w2]) ?_
            refine ih _ true ?_ ?_ ?_
            · rw [addLast_snoc, tot_snoc]; simp only [List.length_append, List.length_cons]; omega
            · rw [addLast_snoc]; simp only [List.length_append, List.length_cons, List.length_nil]; omega
            · rw [addLast_snoc]; simp
      · have hc' : contL (c :: r) = false := by simpa using hc
        have hn := RName_f_ev (c :: r) (by simp only [List.length_cons]; omega)
        rw [if_neg hc, hc']
        refine Ev.go (fun k => by rw [haversackref10_Blocks.j1, if_neg (by decide), if_pos g0, if_pos g1, hrd]) ?_
        refine Ev.bd hn ?_
        simp only [btl]
        by_cases hn : nmL (c :: r) = []
        · rw [if_pos hn]
          simp only [if_pos hn]
          rw [show (nmL (c :: r) != []) = false by simp [hn], w2]
          exact ih out false (by omega) (by simp; omega) (by simp)
        · rw [if_neg hn]
          simp only [if_neg hn]
          rw [show (nmL (c :: r) != []) = true by simp [hn], w2]
          rw [show rB out ++ [(⟨B (nmL (c :: r)), B (c :: r)⟩ : S59)] = rB (out ++ [(nmL (c :: r), c :: r)]) by simp]
          simp only [if_pos (show (rB out).length < 4398046511104 by rw [List.length_map]; omega)]
          refine ih _ true ?_ ?_ (by simp)
          · rw [tot_snoc]; simp only [List.length_cons]; omega
          · simp only [List.length_append, List.length_cons, List.length_nil]; omega
theorem RBlocks_f_ev (s : List UInt8) (hl : s.length ≤ 1000000000) : Ev (fun k => haversackref10_Blocks.f k (B s)) (rB (blkL (linesL s) false [])) := by
  refine Ev.bd (Lines_f_ev s hl) ?_
  exact RBlocks_ev (linesL s) (Nat.le_trans (linesL_lenle s) hl) (by rw [linesL_flat]; exact hl) (linesL_ne s) (linesL s) [] [] false rfl (by rw [linesL_flat]; simpa [tot] using hl) (by simp) (by simp)
/-! ### What blocks are -/
/-- A block's name stands at the beginning of its lines. -/
def okB (p : P2) : Prop := p.1.length + 1 ≤ p.2.length
theorem nmL_len (l : List UInt8) (h : nmL l ≠ []) : (nmL l).length + 1 ≤ l.length := by
  unfold nmL at h ⊢
  cases hn : nameL l with
  | none => rw [hn] at h; exact absurd rfl h
  | some n =>
    obtain ⟨r, hr, _⟩ := nameL_some l n hn
    have : l.length = n.length + r.length + 1 := by rw [hr]; simp; omega
    simp only [Option.getD_some]
    omega
theorem blk_ok : ∀ (ls : List (List UInt8)) (op : Bool) (out : List P2), (∀ p ∈ out, okB p) → ∀ p ∈ blkL ls op out, okB p
  | [], _, _, h => h
  | l :: ls, op, out, h => by
    rw [blkL]
    have hadd : ∀ p ∈ addLast out l, okB p := by
      rcases snoc2 out with rfl | ⟨o, nm, m, rfl⟩
      · simp [addLast]
      · rw [addLast_snoc]
        intro p hp
        rcases List.mem_append.1 hp with hp | hp
        · exact h p (List.mem_append_left _ hp)
        · have h1 := h (nm, m) (by simp)
          simp only [List.mem_singleton] at hp
          subst hp
          unfold okB at h1 ⊢
          simp only [List.length_append] at h1 ⊢
          omega
    split
    · split
      · exact blk_ok ls op _ hadd
      · exact blk_ok ls op _ h
    · split
      · exact blk_ok ls false _ h
      · rename_i hn
        refine blk_ok ls true _ ?_
        intro p hp
        rcases List.mem_append.1 hp with hp | hp
        · exact h p hp
        · simp only [List.mem_singleton] at hp
          subst hp
          exact nmL_len l hn
theorem addLast_tot (out : List P2) (l : List UInt8) : tot (addLast out l) ≤ tot out + l.length := by
  rcases snoc2 out with rfl | ⟨o, nm, m, rfl⟩
  · simp [addLast, tot]
  · rw [addLast_snoc, tot_snoc, tot_snoc]
    simp only [List.length_append]
    omega
theorem addLast_len (out : List P2) (l : List UInt8) : (addLast out l).length ≤ out.length := by
  rcases snoc2 out with rfl | ⟨o, nm, m, rfl⟩
  · simp [addLast]
  · rw [addLast_snoc]; simp
theorem blk_tot : ∀ (ls : List (List UInt8)) (op : Bool) (out : List P2), tot (blkL ls op out) ≤ tot out + ls.flatten.length ∧ (blkL ls op out).length ≤ out.length + ls.length
  | [], _, _ => by simp [blkL]
  | l :: ls, op, out => by
    rw [blkL, List.flatten_cons, List.length_append, List.length_cons]
    have h1 := addLast_tot out l
    have h1' := addLast_len out l
    split
    · split
      · have := blk_tot ls op (addLast out l)
        omega
      · have := blk_tot ls op out
        omega
    · split
      · have := blk_tot ls false out
        omega
      · have := blk_tot ls true (out ++ [(nmL l, l)])
        rw [tot_snoc, List.length_append] at this
        simp only [List.length_cons, List.length_nil] at this
        omega
theorem mem_tot : ∀ (out : List P2) (p : P2), p ∈ out → p.2.length ≤ tot out
  | q :: out, p, h => by
    unfold tot
    simp only [List.map_cons, List.sum_cons]
    rcases List.mem_cons.1 h with rfl | h
    · omega
    · have := mem_tot out p h
      unfold tot at this
      omega
/-! ### Fields -/
def fldL (p : P2) : P2 := (p.1, bareL (p.2.drop (p.1.length + 1)))
abbrev fB (l : List P2) : List S37 := l.map fun p => ⟨B p.1, B p.2⟩
def fieldsL (s : List UInt8) : List P2 := (blkL (linesL s) false []).map fldL
theorem Fields_l0 (L : List P2) (hL : L.length ≤ 1000000000) (hF : tot L ≤ 1000000000) (hok : ∀ p ∈ L, okB p) : ∀ (ls a : List P2), a ++ ls = L →
    Ev (fun k => header_Fields.l0 k (fB (a.map fldL)) (hB L) (L.length : Int) ((a.length : Nat) : Int)) (fB (L.map fldL))
  | [], a, ha => by
    have h1 : a = L := by simpa using ha
    subst h1
    exact Ev.now (fun k => by rw [header_Fields.l0, if_neg (by simp)])
  | p :: ls, a, ha => by
    have hLl : L.length = a.length + ls.length + 1 := by rw [← ha]; simp; omega
    have hm : p ∈ L := by rw [← ha]; simp
    have hp : okB p := hok p hm
    have ht := mem_tot L p hm
    unfold okB at hp
    have g1 : ((a.length : Nat) : Int) < (L.length : Int) := by omega
    have g2 : ((a.length : Nat) : Int) < ((hB L).length : Int) := by rw [List.length_map]; omega
    have g0 : (0 : Int) ≤ ((a.length : Nat) : Int) := by omega
    have hrd : rd_T55 (hB L) ((a.length : Nat) : Int) = ⟨B p.1, B p.2⟩ := by
      unfold rd_T55
      rw [Int.toNat_natCast, ← ha]
      simp [List.getD_eq_getElem?_getD]
    have w1 : wrap64 (((B p.1).size : Int) + 1) = ((p.1.length + 1 : Nat) : Int) := by
      rw [bS]
      exact w64 (x := (p.1.length : Int) + 1) (by omega)
    have w2 : wrap64 (((a.length : Nat) : Int) + 1) = (((a ++ [p]).length : Nat) : Int) := by
      rw [List.length_append]
      exact w64 (x := ((a.length : Nat) : Int) + 1) (by omega)
    have ih := Fields_l0 L hL hF hok ls (a ++ [p]) (by rw [← ha]; simp)
    have hx : (B p.2).extract (p.1.length + 1) (B p.2).size = B (p.2.drop (p.1.length + 1)) := by rw [bS]; exact ba_drop p.2 _
    refine Ev.go (fun k => by
      rw [header_Fields.l0, if_pos g1, if_pos g0, if_pos g2, hrd]
      simp only [w1, w2]
      rw [if_pos (by omega), if_pos (by rw [bS]; omega), Int.toNat_natCast, hx, bare_f _ (by simp; omega)]
      simp only [Option.bind_some]
      rw [if_pos (show (fB (a.map fldL)).length < 4398046511104 by rw [List.length_map, List.length_map]; omega)]
      rw [show fB (a.map fldL) ++ [(⟨B p.1, B (bareL (p.2.drop (p.1.length + 1)))⟩ : S37)] = fB ((a ++ [p]).map fldL) by simp [fldL]]) ih
theorem fields_base (s : List UInt8) (hl : s.length ≤ 1000000000) : (blkL (linesL s) false []).length ≤ 1000000000 ∧ tot (blkL (linesL s) false []) ≤ 1000000000 ∧ ∀ p ∈ blkL (linesL s) false [], okB p := by
  have h := blk_tot (linesL s) false []
  rw [linesL_flat] at h
  have h2 := linesL_lenle s
  have h3 : tot [] = 0 := rfl
  rw [h3] at h
  simp only [List.length_nil] at h
  exact ⟨by omega, by omega, blk_ok _ _ _ (by simp)⟩
theorem Fields_f_ev (s : List UInt8) (hl : s.length ≤ 1000000000) : Ev (fun k => header_Fields.f k (B s)) (fB (fieldsL s)) := by
  obtain ⟨h1, h2, h3⟩ := fields_base s hl
  refine Ev.bd (blocks_f_ev s hl) ?_
  have := Fields_l0 _ h1 h2 h3 (blkL (linesL s) false []) [] rfl
  simp only [List.length_map]
  exact this
theorem RFields_l0 (L : List P2) (hL : L.length ≤ 1000000000) (hF : tot L ≤ 1000000000) (hok : ∀ p ∈ L, okB p) : ∀ (ls a : List P2), a ++ ls = L →
    Ev (fun k => haversackref10_Fields.l0 k (rB L) (fB (a.map fldL)) ((a.length : Nat) : Int)) (fB (L.map fldL))
  | [], a, ha => by
    have h1 : a = L := by simpa using ha
    subst h1
    exact Ev.now (fun k => by rw [haversackref10_Fields.l0, if_neg (by simp)])
  | p :: ls, a, ha => by
    have hLl : L.length = a.length + ls.length + 1 := by rw [← ha]; simp; omega
    have hm : p ∈ L := by rw [← ha]; simp
    have hp : okB p := hok p hm
    have ht := mem_tot L p hm
    unfold okB at hp
    have g2 : ((a.length : Nat) : Int) < ((rB L).length : Int) := by rw [List.length_map]; omega
    have g0 : (0 : Int) ≤ ((a.length : Nat) : Int) := by omega
    have hrd : rd_T59 (rB L) ((a.length : Nat) : Int) = ⟨B p.1, B p.2⟩ := by
      unfold rd_T59
      rw [Int.toNat_natCast, ← ha]
      simp [List.getD_eq_getElem?_getD]
    have w1 : wrap64 (((B p.1).size : Int) + 1) = ((p.1.length + 1 : Nat) : Int) := by
      rw [bS]
      exact w64 (x := (p.1.length : Int) + 1) (by omega)
    have w2 : wrap64 (((a.length : Nat) : Int) + 1) = (((a ++ [p]).length : Nat) : Int) := by
      rw [List.length_append]
      exact w64 (x := ((a.length : Nat) : Int) + 1) (by omega)
    have ih := RFields_l0 L hL hF hok ls (a ++ [p]) (by rw [← ha]; simp)
    have hx : (B p.2).extract (p.1.length + 1) (B p.2).size = B (p.2.drop (p.1.length + 1)) := by rw [bS]; exact ba_drop p.2 _
    have glen : (fB (a.map fldL)).length < 4398046511104 := by rw [List.length_map, List.length_map]; omega
    have step : ∀ k, haversackref10_Fields.l0 (k + 1) (rB L) (fB (a.map fldL)) ((a.length : Nat) : Int) = (haversackref10_Bare.f k (B (p.2.drop (p.1.length + 1)))).bind fun t => haversackref10_Fields.l0 k (rB L) (fB (a.map fldL) ++ [(⟨B p.1, t⟩ : S37)]) (((a ++ [p]).length : Nat) : Int) := by
      intro k
      rw [haversackref10_Fields.l0, if_pos g2, if_pos g0, hrd]
      simp only [w1, w2, if_pos glen]
      rw [if_pos (by omega), if_pos (by rw [bS]; omega), Int.toNat_natCast, hx]
    refine Ev.go step ?_
    refine Ev.bd (Bare_ev _ (by simp; omega)) ?_
    rw [show fB (a.map fldL) ++ [(⟨B p.1, B (bareL (p.2.drop (p.1.length + 1)))⟩ : S37)] = fB ((a ++ [p]).map fldL) by simp [fldL]]
    exact ih
theorem RFields_f_ev (s : List UInt8) (hl : s.length ≤ 1000000000) : Ev (fun k => haversackref10_Fields.f k (B s)) (fB (fieldsL s)) := by
  obtain ⟨h1, h2, h3⟩ := fields_base s hl
  refine Ev.bd (RBlocks_f_ev s hl) ?_
  exact RFields_l0 _ h1 h2 h3 (blkL (linesL s) false []) [] rfl
theorem same_ev (l : List S37) (hl : l.length ≤ 1000000000) : Ev (fun k => haversackref10_SameFields.f k l l) true := by
  have key : ∀ (n i : Nat), l.length - i ≤ n → i ≤ l.length → Ev (fun k => haversackref10_SameFields.l0 k l l (i : Int)) true := by
    intro n
    induction n with
    | zero =>
      intro i h1 h2
      have g : ¬ (i : Int) < (l.length : Int) := by omega
      exact Ev.now (fun k => by rw [haversackref10_SameFields.l0, if_neg g])
    | succ n ih =>
      intro i h1 h2
      by_cases hp : i < l.length
      · have g : (i : Int) < (l.length : Int) := by omega
        have g0 : (0 : Int) ≤ (i : Int) := by omega
        have w1 : wrap64 ((i : Int) + 1) = ((i + 1 : Nat) : Int) := w64 (x := (i : Int) + 1) (by omega)
        refine Ev.go (fun k => by rw [haversackref10_SameFields.l0, if_pos g, if_pos g0, if_pos g, w1]) ?_
        have h3 := ih (i + 1) (by clear w1; omega) (by clear w1; omega)
        simpa using h3
      · have g : ¬ (i : Int) < (l.length : Int) := by omega
        exact Ev.now (fun k => by rw [haversackref10_SameFields.l0, if_neg g])
  refine Ev.same (fun k => ?_) (key l.length 0 (by omega) (by omega))
  rw [haversackref10_SameFields.f, if_pos rfl]
  rfl
theorem fieldsL_len (s : List UInt8) (hl : s.length ≤ 1000000000) : (fB (fieldsL s)).length ≤ 1000000000 := by
  have := (fields_base s hl).1
  simpa [fieldsL] using this
end Go.Proofs.YtkngjdhggcaonaaDoor.Pure
