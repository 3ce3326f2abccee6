/- YtmpngedfnheilaaDoorMyViewZ, as far as ViewWhole needs it (prune.py). -/
import Derived.Test.YtmpngedfnheilaaDoorViewWholeMyViewY
import Derived.Test.YtmpngedfnheilaaDoorViewWholeKindsPP
namespace Go.Proofs.YtmpngedfnheilaaDoor.PP
open Go.RowKit Go.Proofs.YtmpngedfnheilaaDoorW.PrintWords Go.Proofs.YtmpngedfnheilaaDoorW.PrintLast Go.Proofs.YtmpngedfnheilaaDoorW.PrintMore
open Go.Proofs.YtmpngedfnheilaaDoor.My
set_option linter.unusedVariables false
set_option linter.unusedSimpArgs false
theorem R_chg {α : Type} {d : Kd α} {e base : Nat} {ok : Nat → Prop} {w w' : World} {v : Value} {xs : List α} {T : List TypeId} (h : d.R e w base ok v xs) (hc : Chg T w w') (hT : ∀ q, q ∈ e :: d.E → q ∉ T) : d.R e w' base ok v xs :=
  Kd.R_mono (Kd.R_step (Kd.R_bound h) (fun k hk hlt => by
    obtain ⟨_, _, _, q, hq, c, hb⟩ := hk
    exact (hc.cells hb (hT q hq)).trans hb.symm)) (fun k hk => hk.1)
theorem IRow.chg {w w' : World} {base : Nat} {v : Value} {l : List Int} (h : IRow w base v l) (hc : Chg TV w w') : IRow w' base v l := R_chg h hc (by decide)
theorem small_mail {m : Ml} (h : Q43 m) : Small m.f1 := h.2.1
theorem small_act {a : Al} (h : Q33 a) : Small a.f3 ∧ a.f1.length ≤ 9223372036854775807 ∧ ∀ m ∈ a.f1, Q43 m := ⟨h.2.2.2, h.2.1.1, h.2.1.2⟩
theorem uidAt_last (l : List Pl) : uidAt l (l.length : Int) = (us l).getLast?.getD 0 := by
  unfold uidAt
  by_cases h : l.length = 0
  · have : l = [] := List.eq_nil_of_length_eq_zero h
    subst this; rfl
  · rw [if_neg (by omega)]
    have := us_rd l (l.length - 1) (by omega)
    rw [List.getLast?_eq_getElem?, us_len, this, Option.getD_some, show ((l.length : Int) - 1) = ((l.length - 1 : Nat) : Int) by omega]
theorem ris_last {l : List Pl} {top : Int} (h : Ris l top) (h0 : 0 ≤ top) : uidAt l (l.length : Int) ≤ top := by
  unfold uidAt
  split
  · exact h0
  · have := h.top (l.length - 1) (by omega)
    rw [show ((l.length : Int) - 1) = ((l.length - 1 : Nat) : Int) by omega]
    exact this
theorem DoF.max {a : Al} {l : List Pl} {top : Int} {l' : List Pl} {top' : Int} {out : List Tl} (h : DoF a l top l' top' out) (h0 : 0 ≤ top) : mx top (uidAt l' (l'.length : Int)) = top' := by
  have hl := ris_last h.ris (by have := h.le; omega)
  have hle := h.le
  have key : top = top' ∨ uidAt l' (l'.length : Int) = top' := by
    by_cases hn : newU a top = []
    · left
      rw [h.last, hn]; rfl
    · right
      rw [uidAt_last, h.lastU hn, h.last]
      cases hg : (newU a top).getLast? with
      | none => exact absurd (List.getLast?_eq_none_iff.1 hg) hn
      | some x => rfl
  unfold mx
  split <;> omega
theorem ris0 : Ris [] 0 := ⟨fun i j _ h => by simp at h, fun i h => by simp at h, fun i h => by simp at h, by simp⟩
/-- The view at first. -/
theorem first_ris (l : List Ml) (h : l.length ≤ 60) : Ris (growL FL (risL l 0) [] 0).1 (growL FL (risL l 0) [] 0).2 :=
  Ris.grow FL (risL l 0) [] 0 ris0 (fun m hm => by have := risL_above l 0 m hm; omega) (by have := risL_len l 0; simp; omega)
theorem first_top (l : List Ml) : (growL FL (risL l 0) [] 0).2 = uidAt (growL FL (risL l 0) [] 0).1 ((growL FL (risL l 0) [] 0).1.length : Int) := by
  rw [uidAt_last, grow_us, grow_top]
  rfl
theorem first_len (l : List Ml) (h : l.length ≤ 60) : (growL FL (risL l 0) [] 0).1.length ≤ 60 := by
  have := risL_len l 0
  have h3 := growL_len FL (risL l 0) [] 0
  simp at h3
  omega
theorem first_nn (l : List Ml) : 0 ≤ (growL FL (risL l 0) [] 0).2 := by
  rw [grow_top]
  exact last_ge _ _ (fresh_gt _ _)
/-- All flags of the laws' mails are kept at last. -/
theorem kf_all (l0 : List Ml) (l1 : List Al) (l2 : List Ml) (q0 : ∀ z ∈ l0, Q43 z) (q1 : ∀ z ∈ l1, Q33 z) (q2 : ∀ z ∈ l2, Q43 z) : ∃ kf, (∀ m ∈ l0, search_Flags.f kf m.f1 = some (FL m.f1)) ∧ (∀ a ∈ l1, search_Flags.f kf a.f3 = some (FL a.f3) ∧ ∀ m ∈ a.f1, search_Flags.f kf m.f1 = some (FL m.f1)) ∧ (∀ m ∈ l2, search_Flags.f kf m.f1 = some (FL m.f1)) := by
  obtain ⟨kf, h⟩ := FL_all (l0.map (·.f1) ++ (l1.flatMap (fun a => a.f3 :: a.f1.map (·.f1)) ++ l2.map (·.f1))) (fun l hl => by
    rcases List.mem_append.1 hl with hl | hl
    · obtain ⟨m, hm, rfl⟩ := List.mem_map.1 hl
      exact small_mail (q0 m hm)
    · rcases List.mem_append.1 hl with hl | hl
      · obtain ⟨a, ha, hl⟩ := List.mem_flatMap.1 hl
        rcases List.mem_cons.1 hl with rfl | hl
        · exact (small_act (q1 a ha)).1
        · obtain ⟨m, hm, rfl⟩ := List.mem_map.1 hl
          exact small_mail ((small_act (q1 a ha)).2.2 m hm)
      · obtain ⟨m, hm, rfl⟩ := List.mem_map.1 hl
        exact small_mail (q2 m hm))
  refine ⟨kf, fun m hm => h _ (List.mem_append_left _ (List.mem_map_of_mem hm)), fun a ha => ⟨h _ (List.mem_append_right _ (List.mem_append_left _ (List.mem_flatMap.2 ⟨a, ha, List.mem_cons_self ..⟩))), fun m hm => h _ (List.mem_append_right _ (List.mem_append_left _ (List.mem_flatMap.2 ⟨a, ha, List.mem_cons_of_mem _ (List.mem_map_of_mem hm)⟩)))⟩, fun m hm => h _ (List.mem_append_right _ (List.mem_append_right _ (List.mem_map_of_mem hm)))⟩
theorem light_at (l : List Ml) (h : l.length ≤ maxLen) (q : ∀ z ∈ l, Q43 z) : ∃ k b, haversacklaw18_light.f k l = some b := by
  obtain ⟨b, hb⟩ := light_tot l h (fun m hm => (small_mail (q m hm)).1)
  obtain ⟨k, hk⟩ := hb.at
  exact ⟨k, b, hk⟩
theorem few_at (l : List Al) (q : ∀ z ∈ l, Q33 z) : ∃ k b, haversacklaw18_few.f k l = some b := by
  obtain ⟨b, hb⟩ := few_tot l (fun a ha => ⟨⟨(small_act (q a ha)).2.1, fun m hm => (small_mail ((small_act (q a ha)).2.2 m hm)).1⟩, (small_act (q a ha)).1.1⟩)
  obtain ⟨k, hk⟩ := hb.at
  exact ⟨k, b, hk⟩
theorem exp_out (ls : List Ml) : ∀ (n : Nat) (l : List Pl) (out : List Tl), (expL ls n l out).2.length ≤ out.length + n
  | 0, l, out => by simp [expL]
  | n + 1, l, out => by
    unfold expL
    split
    · have := exp_out ls n l out; omega
    · have := exp_out ls n (l.eraseIdx n) (out ++ [⟨1, (n : Int) + 1, []⟩]); rw [List.length_append, List.length_singleton] at this; omega
theorem flg_out (ls : List Ml) : ∀ (n i : Nat) (l : List Pl) (out : List Tl), (flgL FL ls n i l out).2.length ≤ out.length + n
  | 0, i, l, out => by simp [flgL]
  | n + 1, i, l, out => by
    unfold flgL
    split
    · have := flg_out ls n (i + 1) (l.set i ⟨(rd_T74 l i).f0, flagsU FL ls (rd_T74 l i).f0⟩) (out ++ [⟨3, (i : Int) + 1, flagsU FL ls (rd_T74 l i).f0⟩]); rw [List.length_append, List.length_singleton] at this; omega
    · have := flg_out ls n (i + 1) l out; omega
theorem sync_out (q : Bool) (ls : List Ml) (l : List Pl) (top : Int) : (syncL FL q ls l top).2.length ≤ 2 * l.length + ls.length + 1 := by
  unfold syncL
  have h1 : (if q = true then (l, ([] : List Tl)) else expL ls l.length l []).2.length ≤ l.length ∧ (if q = true then (l, ([] : List Tl)) else expL ls l.length l []).1.length ≤ l.length := by
    split
    · simp
    · have := exp_out ls l.length l []
      have := expL_len ls l.length l []
      simp only [List.length_nil, Nat.zero_add] at *
      omega
  obtain ⟨a, ha⟩ : ∃ a, a = (if q = true then (l, ([] : List Tl)) else expL ls l.length l []) := ⟨_, rfl⟩
  rw [← ha] at h1 ⊢
  have h2 := growL_len FL ls a.1 top
  have h3 := flg_out ls (growL FL ls a.1 top).1.length 0 (growL FL ls a.1 top).1 (if a.1.length < (growL FL ls a.1 top).1.length then a.2 ++ [⟨2, ((growL FL ls a.1 top).1.length : Int), []⟩] else a.2)
  have h4 : (if a.1.length < (growL FL ls a.1 top).1.length then a.2 ++ [(⟨2, ((growL FL ls a.1 top).1.length : Int), []⟩ : Tl)] else a.2).length ≤ a.2.length + 1 := by
    split
    · simp
    · omega
  dsimp only
  omega
theorem DoR.out_len {a : Al} {l : List Pl} {top : Int} {l' : List Pl} {top' : Int} {out : List Tl} (h : DoR a l top l' top' out) (hr : Ris l top) (hl : l.length + a.f1.length ≤ 100000) : out.length ≤ 1000000 := by
  by_cases hs : a.f0 = 0 ∨ a.f0 = 1
  · have := sync_out (decide (a.f0 = 1)) (risL a.f1 0) l top
    rw [h.sync hs] at this
    have := risL_len a.f1 0
    dsimp only at *
    omega
  · by_cases h2 : a.f0 = 2
    · rw [(h.note h2).1]; simp
    · rw [(h.none (fun e => hs (.inl e)) (fun e => hs (.inr e)) h2).1]; simp
theorem rd_mem33 (l : List Al) (i : Nat) (h : i < l.length) : rd_T33 l i ∈ l := by
  unfold rd_T33
  simp [List.getD_eq_getElem?_getD, List.getElem?_eq_getElem h]
end Go.Proofs.YtmpngedfnheilaaDoor.PP
