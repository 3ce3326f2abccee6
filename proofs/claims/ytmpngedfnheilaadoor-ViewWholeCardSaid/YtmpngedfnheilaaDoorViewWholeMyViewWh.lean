/- YtmpngedfnheilaaDoorMyViewWh, as far as ViewWhole needs it (prune.py). -/
import Derived.Test.YtmpngedfnheilaaDoorViewWholeMyViewZ
import Derived.Test.YtmpngedfnheilaaDoorViewWholeMyViewW
import Derived.Test.YtmpngedfnheilaaDoorViewWholeMyViewRises
import Derived.Deep.Cut
import Derived.Deep.CutRange
import Derived.Deep.CutBlock
namespace Go.Proofs.YtmpngedfnheilaaDoor.PP
open Go.RowKit Go.Proofs.YtmpngedfnheilaaDoorW.PrintWords Go.Proofs.YtmpngedfnheilaaDoorW.PrintLast Go.Proofs.YtmpngedfnheilaaDoorW.PrintMore
open Go.Proofs.YtmpngedfnheilaaDoor.My
set_option linter.unusedVariables false
set_option linter.unusedSimpArgs false
attribute [local go_sem] max2_int min2_int max_two min_two max_three min_three
theorem srt_ext : ∀ a b : List Int, a.Pairwise (· < ·) → b.Pairwise (· < ·) → (∀ x, x ∈ a ↔ x ∈ b) → a = b
  | [], [], _, _, _ => rfl
  | [], y :: b, _, _, h => by have := (h y).2 (List.mem_cons_self ..); cases this
  | x :: a, [], _, _, h => by have := (h x).1 (List.mem_cons_self ..); cases this
  | x :: a, y :: b, ha, hb, h => by
    rw [List.pairwise_cons] at ha hb
    have e : x = y := by
      rcases List.mem_cons.1 ((h x).1 (List.mem_cons_self ..)) with e | e
      · exact e
      · rcases List.mem_cons.1 ((h y).2 (List.mem_cons_self ..)) with e2 | e2
        · exact e2.symm
        · have h1 := hb.1 x e
          have h2 := ha.1 y e2
          omega
    subst e
    rw [srt_ext a b ha.2 hb.2 (fun z => ⟨fun hz => by
      rcases List.mem_cons.1 ((h z).1 (List.mem_cons_of_mem _ hz)) with e | e
      · have := ha.1 z hz; omega
      · exact e, fun hz => by
      rcases List.mem_cons.1 ((h z).2 (List.mem_cons_of_mem _ hz)) with e | e
      · have := hb.1 z hz; omega
      · exact e⟩)]
theorem ris_srt {l : List Pl} {top : Int} (h : Ris l top) : (us l).Pairwise (· < ·) := by
  rw [List.pairwise_iff_getElem]
  intro i j hi hj hij
  have := ris_nodup h i j hij (by rw [us_len] at hj; exact hj)
  unfold rd at this
  simpa [List.getD_eq_getElem?_getD, List.getElem?_eq_getElem hi, List.getElem?_eq_getElem hj] using this
theorem fresh_filter : ∀ (ls : List Ml) (t : Int), ls.Pairwise (fun a b => a.f0 < b.f0) → freshG ls t = (ls.filter (fun m => decide (t < m.f0))).map (·.f0)
  | [], _, _ => rfl
  | m :: ms, t, hp => by
    rw [List.pairwise_cons] at hp
    unfold freshG
    split
    · rename_i h
      rw [List.filter_cons_of_pos (by simpa using h), fresh_all ms m.f0 hp.2 hp.1, List.map_cons, List.filter_eq_self.2 (fun a ha => by have := hp.1 a ha; simp; omega)]
    · rename_i h
      rw [List.filter_cons_of_neg (by simpa using h)]
      exact fresh_filter ms t hp.2
theorem fresh_mem (ls : List Ml) (t : Int) (hp : ls.Pairwise (fun a b => a.f0 < b.f0)) (x : Int) : x ∈ freshG ls t ↔ inU ls x = true ∧ t < x := by
  rw [fresh_filter ls t hp, inU_iff, List.mem_map]
  constructor
  · rintro ⟨m, hm, rfl⟩
    rw [List.mem_filter] at hm
    exact ⟨⟨m, hm.1, rfl⟩, of_decide_eq_true hm.2⟩
  · rintro ⟨⟨m, hm, rfl⟩, h⟩
    exact ⟨m, List.mem_filter.2 ⟨hm, decide_eq_true h⟩, rfl⟩
theorem exp_filter (ls : List Ml) : ∀ (n : Nat) (l : List Pl) (out : List Tl), n ≤ l.length → (expL ls n l out).1 = (l.take n).filter (fun p => inU ls p.f0) ++ l.drop n
  | 0, l, out, _ => by simp [expL]
  | n + 1, l, out, h => by
    have e : l.take (n + 1) = l.take n ++ [rd_T74 l n] := by
      rw [List.take_add_one, List.getElem?_eq_getElem (by omega)]
      unfold rd_T74
      simp [List.getD_eq_getElem?_getD, List.getElem?_eq_getElem (show n < l.length by omega)]
    have e2 : l.drop n = rd_T74 l n :: l.drop (n + 1) := by
      rw [List.drop_eq_getElem_cons (by omega)]
      unfold rd_T74
      simp [List.getD_eq_getElem?_getD, List.getElem?_eq_getElem (show n < l.length by omega)]
    unfold expL
    split
    · rename_i hp
      rw [exp_filter ls n l out (by omega), e, List.filter_append, e2, List.append_assoc]
      simp [hp]
    · rename_i hp
      have h3 : (l.eraseIdx n).take n = l.take n := by
        rw [List.eraseIdx_eq_take_drop_succ, List.take_left' (by rw [List.length_take]; omega)]
      have h4 : (l.eraseIdx n).drop n = l.drop (n + 1) := by
        rw [List.eraseIdx_eq_take_drop_succ, List.drop_left' (by rw [List.length_take]; omega)]
      rw [exp_filter ls n _ _ (by rw [List.length_eraseIdx_of_lt (by omega)]; omega), h3, h4, e, List.filter_append]
      simp [hp]
theorem exp_id (ls : List Ml) : ∀ (n : Nat) (l : List Pl) (out : List Tl), (∀ i, i < n → inU ls (rd_T74 l i).f0 = true) → expL ls n l out = (l, out)
  | 0, l, out, _ => rfl
  | n + 1, l, out, h => by
    rw [expL, if_pos (h n (by omega))]
    exact exp_id ls n l out (fun i hi => h i (by omega))
theorem grow_id : ∀ (ls : List Ml) (l : List Pl) (top : Int), (∀ m ∈ ls, m.f0 ≤ top) → growL FL ls l top = (l, top)
  | [], l, top, _ => rfl
  | m :: ms, l, top, h => by
    have := h m (List.mem_cons_self ..)
    rw [growL, if_neg (by omega)]
    exact grow_id ms l top (fun a ha => h a (List.mem_cons_of_mem _ ha))
theorem flg_id (ls : List Ml) : ∀ (n i : Nat) (l : List Pl) (out : List Tl), (∀ j, i ≤ j → j < i + n → inU ls (rd_T74 l j).f0 = true → (rd_T74 l j).f1 = flagsU FL ls (rd_T74 l j).f0) → flgL FL ls n i l out = (l, out)
  | 0, i, l, out, _ => rfl
  | n + 1, i, l, out, h => by
    rw [flgL, if_neg (fun hh => hh.2 (h i (Nat.le_refl _) (by omega) hh.1))]
    exact flg_id ls n (i + 1) l out (fun j h1 h2 => h j (by omega) (by omega))
theorem flg_sets (ls : List Ml) : ∀ (n i : Nat) (l : List Pl) (out : List Tl), i + n ≤ l.length → (∀ j, j < i → rd_T74 (flgL FL ls n i l out).1 j = rd_T74 l j) ∧ ∀ j, i ≤ j → j < i + n → inU ls (rd_T74 (flgL FL ls n i l out).1 j).f0 = true → (rd_T74 (flgL FL ls n i l out).1 j).f1 = flagsU FL ls (rd_T74 (flgL FL ls n i l out).1 j).f0
  | 0, i, l, out, _ => ⟨fun _ _ => rfl, fun j h1 h2 => by omega⟩
  | n + 1, i, l, out, h => by
    unfold flgL
    split
    · rename_i hc
      obtain ⟨h1, h2⟩ := flg_sets ls n (i + 1) (l.set i ⟨(rd_T74 l i).f0, flagsU FL ls (rd_T74 l i).f0⟩) (out ++ [⟨3, (i : Int) + 1, flagsU FL ls (rd_T74 l i).f0⟩]) (by rw [List.length_set]; omega)
      refine ⟨fun j hj => ?_, fun j hj1 hj2 => ?_⟩
      · rw [h1 j (by omega), rd_set l i _ j (by omega), if_neg (by omega)]
      · by_cases he : j = i
        · subst he
          rw [h1 j (by omega), rd_set l j _ j (by omega), if_pos rfl]
          exact fun _ => rfl
        · exact h2 j (by omega) (by omega)
    · rename_i hc
      obtain ⟨h1, h2⟩ := flg_sets ls n (i + 1) l out (by omega)
      refine ⟨fun j hj => h1 j (by omega), fun j hj1 hj2 => ?_⟩
      by_cases he : j = i
      · subst he
        rw [h1 j (by omega)]
        intro hin
        by_cases hf : (rd_T74 l j).f1 = flagsU FL ls (rd_T74 l j).f0
        · exact hf
        · exact absurd ⟨hin, hf⟩ hc
      · exact h2 j (by omega) (by omega)
/-- What is wanted, of the first messages. -/
def wantL (kn : List Int) (top : Int) (ls : List Ml) : List Int := (ls.filter (fun m => decide (m.f0 ∈ kn) || decide (top < m.f0))).map (·.f0)
theorem sync_whole (ms : List Ml) (l : List Pl) (top : Int) (h : Ris l top) (hb : l.length + ms.length ≤ 1000000000) (l' : List Pl) (top' : Int) (out : List Tl) (hs : syncL FL false (risL ms 0) l top = ((l', top'), out)) :
    us l' = wantL (us l) top (risL ms 0) ∧ Ris l' top' ∧ ∀ q, syncL FL q (risL ms 0) l' top' = ((l', top'), []) := by
  have hp := risL_pair ms 0
  have hris := Ris.sync FL false ms l top h hb
  rw [hs] at hris
  replace hris : Ris l' top' := hris
  obtain ⟨ls, hls⟩ : ∃ ls, ls = risL ms 0 := ⟨_, rfl⟩
  rw [← hls] at hs hp ⊢
  have e2 : (expL ls l.length l []).1 = l.filter (fun p => inU ls p.f0) := by
    rw [exp_filter ls l.length l [] (Nat.le_refl _), List.take_length, List.drop_length, List.append_nil]
  obtain ⟨l2, o2, hx⟩ : ∃ l2 o2, expL ls l.length l [] = (l2, o2) := ⟨_, _, rfl⟩
  rw [hx] at e2
  have hu2 : us l2 = (us l).filter (fun u => inU ls u) := by
    rw [show l2 = _ from e2]
    unfold us
    rw [List.filter_map]
    rfl
  obtain ⟨l3, t3, hg⟩ : ∃ l3 t3, growL FL ls l2 top = (l3, t3) := ⟨_, _, rfl⟩
  have hu3 := grow_us ls l2 top
  rw [hg] at hu3
  have ht3 := grow_top ls l2 top
  rw [hg] at ht3
  replace ht3 : t3 = (freshG ls top).getLast?.getD top := ht3
  obtain ⟨o3, ho3⟩ : ∃ o3, o3 = (if l2.length < l3.length then o2 ++ [(⟨2, (l3.length : Int), []⟩ : Tl)] else o2) := ⟨_, rfl⟩
  have hse : syncL FL false ls l top = (((flgL FL ls l3.length 0 l3 o3).1, t3), (flgL FL ls l3.length 0 l3 o3).2) := by
    unfold syncL
    rw [if_neg (by decide), hx]
    dsimp only
    rw [hg]
    dsimp only
    rw [← ho3]
  rw [hse] at hs
  simp only [Prod.mk.injEq] at hs
  obtain ⟨⟨hl', rfl⟩, _⟩ := hs
  obtain ⟨_, _, _, hu4, _⟩ := flg_fol ls [] (l3.length : Int) l3.length 0 l3 o3 (by omega) (Int.le_refl _)
  have hset := (flg_sets ls l3.length 0 l3 o3 (by omega)).2
  have hlen : l'.length = l3.length := by rw [← hl']; exact flgL_len FL ls l3.length 0 l3 o3
  rw [hl'] at hu4 hset
  have hmem : ∀ x, x ∈ us l' ↔ (x ∈ us l ∧ inU ls x = true) ∨ (inU ls x = true ∧ top < x) := fun x => by
    rw [hu4, hu3, hu2, List.mem_append, List.mem_filter, fresh_mem ls top hp x]
  refine ⟨?_, hris, fun q => ?_⟩
  · refine srt_ext _ _ (ris_srt hris) ?_ (fun x => ?_)
    · unfold wantL
      rw [List.pairwise_map]
      exact hp.sublist (List.filter_sublist ..)
    · rw [hmem]
      unfold wantL
      rw [List.mem_map]
      constructor
      · rintro (⟨h1, h2⟩ | ⟨h1, h2⟩)
        · obtain ⟨m, hm, rfl⟩ := (inU_iff ls x).1 h2
          exact ⟨m, List.mem_filter.2 ⟨hm, by simp [h1]⟩, rfl⟩
        · obtain ⟨m, hm, rfl⟩ := (inU_iff ls x).1 h1
          exact ⟨m, List.mem_filter.2 ⟨hm, by simp [h2]⟩, rfl⟩
      · rintro ⟨m, hm, rfl⟩
        rw [List.mem_filter] at hm
        have hin := (inU_iff ls m.f0).2 ⟨m, hm.1, rfl⟩
        have := hm.2
        simp only [Bool.or_eq_true, decide_eq_true_eq] at this
        rcases this with h1 | h1
        · exact .inl ⟨h1, hin⟩
        · exact .inr ⟨hin, h1⟩
  · have hall : ∀ i, i < l'.length → inU ls (rd_T74 l' i).f0 = true := fun i hi => by
      have hm : (rd_T74 l' i).f0 ∈ us l' := List.mem_of_getElem? (us_rd l' i hi)
      rcases (hmem _).1 hm with h1 | h1
      · exact h1.2
      · exact h1.1
    have hle : ∀ m ∈ ls, m.f0 ≤ t3 := fun m hm => by
      have hin := (inU_iff ls m.f0).2 ⟨m, hm, rfl⟩
      by_cases ht : top < m.f0
      · obtain ⟨i, hi, he⟩ := us_mem l' m.f0 ((hmem _).2 (.inr ⟨hin, ht⟩))
        have := hris.top i hi
        omega
      · have h2 : top ≤ t3 := by rw [ht3]; exact last_ge _ _ (fresh_gt _ _)
        omega
    have ha : (if q = true then (l', ([] : List Tl)) else expL ls l'.length l' []) = (l', []) := by
      split
      · rfl
      · exact exp_id ls l'.length l' [] hall
    unfold syncL
    rw [ha]
    dsimp only
    rw [grow_id ls l' t3 hle]
    dsimp only
    rw [if_neg (by omega), flg_id ls l'.length 0 l' [] (fun j h1 h2 h3 => hset j (by omega) (by rw [← hlen]; omega) h3)]
theorem wantL_in (kn : List Int) (top : Int) (ls : List Ml) (j : Nat) (h : j < ls.length) (hc : (rd_T43 ls j).f0 ∈ kn ∨ top < (rd_T43 ls j).f0) : wantL kn top (ls.take (j + 1)) = wantL kn top (ls.take j) ++ [(rd_T43 ls j).f0] := by
  have e : ls.take (j + 1) = ls.take j ++ [rd_T43 ls j] := by
    rw [List.take_add_one, List.getElem?_eq_getElem h]
    unfold rd_T43
    simp [List.getD_eq_getElem?_getD, List.getElem?_eq_getElem h]
  unfold wantL
  rw [e, List.filter_append]
  simp [hc]
theorem wantL_out (kn : List Int) (top : Int) (ls : List Ml) (j : Nat) (h : j < ls.length) (hc : ¬ ((rd_T43 ls j).f0 ∈ kn ∨ top < (rd_T43 ls j).f0)) : wantL kn top (ls.take (j + 1)) = wantL kn top (ls.take j) := by
  have e : ls.take (j + 1) = ls.take j ++ [rd_T43 ls j] := by
    rw [List.take_add_one, List.getElem?_eq_getElem h]
    unfold rd_T43
    simp [List.getD_eq_getElem?_getD, List.getElem?_eq_getElem h]
  unfold wantL
  rw [e, List.filter_append]
  have h1 : ¬ (rd_T43 ls j).f0 ∈ kn := fun h => hc (.inl h)
  have h2 : ¬ top < (rd_T43 ls j).f0 := fun h => hc (.inr h)
  simp [h1, h2]
theorem wantL_len (kn : List Int) (top : Int) (ls : List Ml) : (wantL kn top ls).length ≤ ls.length := by
  unfold wantL
  rw [List.length_map]
  exact List.length_filter_le ..
end Go.Proofs.YtmpngedfnheilaaDoor.PP
