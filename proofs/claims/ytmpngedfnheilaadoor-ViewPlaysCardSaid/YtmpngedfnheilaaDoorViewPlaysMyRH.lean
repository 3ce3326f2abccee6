/- MyKeptC, MyRH (mergeall.py). -/
import Derived.Test.YtmpngedfnheilaaDoorViewPlaysMyKeptB
import Derived.Test.YtmpngedfnheilaaDoorViewPlaysMyViewZ
import Derived.Test.YtmpngedfnheilaaDoorViewPlaysPPx11
namespace Go.Proofs.YtmpngedfnheilaaDoor.PP
open Go.RowKit Go.Proofs.YtmpngedfnheilaaDoorW.PrintWords Go.Proofs.YtmpngedfnheilaaDoorW.PrintLast Go.Proofs.YtmpngedfnheilaaDoorW.PrintMore
open Go.Proofs.YtmpngedfnheilaaDoor.My
set_option linter.unusedVariables false
set_option linter.unusedSimpArgs false
abbrev atB (m : List ByteArray) (i : Nat) : ByteArray := rdOf ByteArray.empty m (i : Int)
theorem atB_get (m : List ByteArray) (i : Nat) (h : i < m.length) : atB m i = m[i] := by
  show m.getD ((i : Int).toNat) _ = _
  rw [Int.toNat_natCast, List.getD_eq_getElem?_getD, List.getElem?_eq_getElem h]
  rfl
theorem sortB_perm (m : List ByteArray) : (sortB m).Perm m := by
  have h := (List.mergeSort_perm (m.map fun x => x.data.toList) (fun x y => decide (x ≤ y))).map (fun x : List UInt8 => (⟨x.toArray⟩ : ByteArray))
  have e := bsB_of m
  unfold bsB at e
  rw [← e] at h
  exact h
theorem sortB_pair (m : List ByteArray) : (sortB m).Pairwise (fun x y => bl x ≤ bl y) := by
  unfold sortB bsB
  rw [List.pairwise_map]
  have h := List.pairwise_mergeSort (le := fun (x y : List UInt8) => decide (x ≤ y)) (fun a b c h1 h2 => by
    simp only [decide_eq_true_eq] at h1 h2 ⊢; exact List.le_trans h1 h2) (fun a b => by
    simp only [Bool.or_eq_true, decide_eq_true_eq]; exact List.le_total a b) (m.map fun x => x.data.toList)
  exact h.imp (fun h => by simpa using h)
/-- Where a sorted list stands: what is not among the first j is not less than the next. -/
theorem next_le (s : List ByteArray) (hs : s.Pairwise (fun x y => bl x ≤ bl y)) (j : Nat) (hj : j < s.length) (x : ByteArray) (hx : x ∈ s) (hn : x ∉ s.take j) : bl s[j] ≤ bl x := by
  obtain ⟨i, hi, rfl⟩ := List.getElem_of_mem hx
  have hij : j ≤ i := by
    apply Classical.byContradiction
    intro h
    exact hn (List.mem_take_iff_getElem.2 ⟨i, by omega, rfl⟩)
  by_cases he : i = j
  · subst he; exact List.le_refl _
  · exact (List.pairwise_iff_getElem.1 hs) j i hj hi (by omega)
theorem nth_new (s : List ByteArray) (hs : s.Nodup) (j : Nat) (hj : j < s.length) : s[j] ∉ s.take j := by
  intro h
  obtain ⟨i, hi, he⟩ := List.mem_take_iff_getElem.1 h
  have := (List.pairwise_iff_getElem.1 hs) i j (by omega) hj (by omega)
  exact this he
/-- The least of what was met before i and is not among the chosen. -/
def Least (m out : List ByteArray) (i : Nat) (x : Int) : Prop :=
  (x = -1 ∧ ∀ a, a < i → atB m a ∈ out) ∨ ∃ b : Nat, b < i ∧ x = (b : Int) ∧ atB m b ∉ out ∧ ∀ a, a < i → atB m a ∉ out → bl (atB m b) ≤ bl (atB m a)
theorem sel_l2 (m out : List ByteArray) (hm : m.length ≤ 20) (ho : out.length ≤ 20) (r : List ByteArray) (H : ∀ b : Nat, b < m.length → atB m b ∉ out → (∀ a, a < m.length → atB m a ∉ out → bl (atB m b) ≤ bl (atB m a)) → Ev (fun k => haversackref16_Flags.l1 k m (out ++ [atB m b])) r) (hx : ∃ a, a < m.length ∧ atB m a ∉ out) : ∀ (n i : Nat) (x : Int), i + n = m.length → Least m out i x → Ev (fun k => haversackref16_Flags.l2 k m out x i) r
  | 0, i, x, h, hl => by
    have hi : i = m.length := by omega
    rcases hl with ⟨_, hl⟩ | ⟨b, hb, rfl, hbn, hbl⟩
    · obtain ⟨a, ha, han⟩ := hx
      exact absurd (hl a (by omega)) han
    · refine Ev.go (fun k => by rw [haversackref16_Flags.l2, if_neg (by omega), if_pos (by omega), if_pos (by omega), if_pos (by omega)]) (H b (by omega) hbn (fun a ha => hbl a (by omega)))
  | n + 1, i, x, h, hl => by
    have ih := sel_l2 m out hm ho r H hx n (i + 1)
    have hin := in_ev out (atB m i) (by omega)
    have hw : wrap64 ((i : Int) + 1) = ((i + 1 : Nat) : Int) := w64s (by omega)
    refine Ev.go (f := fun k => _) (fun k => by rw [haversackref16_Flags.l2, if_pos (by omega), if_pos (by omega), hw]) ?_
    refine Ev.bd hin ?_
    by_cases hmem : atB m i ∈ out
    · rw [decide_eq_true hmem]
      simp only [if_true]
      refine ih x (by omega) ?_
      rcases hl with ⟨h1, h2⟩ | ⟨b, hb, h1, hbn, hbl⟩
      · refine .inl ⟨h1, fun a ha => ?_⟩
        by_cases e : a = i
        · subst e; exact hmem
        · exact h2 a (by omega)
      · refine .inr ⟨b, by omega, h1, hbn, fun a ha han => ?_⟩
        by_cases e : a = i
        · subst e; exact absurd hmem han
        · exact hbl a (by omega) han
    · rw [decide_eq_false hmem]
      simp only [Bool.false_eq_true, if_false]
      rcases hl with ⟨rfl, h2⟩ | ⟨b, hb, rfl, hbn, hbl⟩
      · simp only [show ((-1 : Int) < 0) from by omega, if_true]
        refine ih i (by omega) (.inr ⟨i, by omega, rfl, hmem, fun a ha han => ?_⟩)
        by_cases e : a = i
        · subst e; exact List.le_refl _
        · exact absurd (h2 a (by omega)) han
      · simp only [show ¬ ((b : Int) < 0) by omega, show (0 : Int) ≤ (b : Int) by omega, show (b : Int) < (m.length : Int) by omega, if_true, if_false, bytesLess_eq, tl_bl]
        by_cases hlt : bl (atB m i) < bl (atB m b)
        · simp only [decide_eq_true hlt, if_true]
          refine ih i (by omega) (.inr ⟨i, by omega, rfl, hmem, fun a ha han => ?_⟩)
          by_cases e : a = i
          · subst e; exact List.le_refl _
          · exact List.le_trans (List.le_of_lt hlt) (hbl a (by omega) han)
        · simp only [decide_eq_false hlt, Bool.false_eq_true, if_false]
          refine ih b (by omega) (.inr ⟨b, by omega, rfl, hbn, fun a ha han => ?_⟩)
          by_cases e : a = i
          · subst e; exact List.not_lt.1 hlt
          · exact hbl a (by omega) han
theorem sel_ev (m s : List ByteArray) (hm : m.length ≤ 20) (hp : s.Perm m) (hs : s.Pairwise (fun x y => bl x ≤ bl y)) (hd : s.Nodup) : ∀ (n j : Nat), j + n = m.length → Ev (fun k => haversackref16_Flags.l1 k m (s.take j)) s
  | 0, j, h => by
    have hl := hp.length_eq
    rw [List.take_of_length_le (by omega)]
    exact Ev.now (fun k => by rw [haversackref16_Flags.l1, if_neg (by omega)])
  | n + 1, j, h => by
    have hl := hp.length_eq
    have hj : j < s.length := by omega
    have ht : (s.take j).length = j := by rw [List.length_take]; omega
    refine Ev.go (f := fun k => haversackref16_Flags.l2 k m (s.take j) (-1) ((0 : Nat) : Int)) (fun k => by rw [haversackref16_Flags.l1, if_pos (by rw [ht]; omega)]; rfl) ?_
    have hmem : ∀ x, x ∈ m → ∃ a, a < m.length ∧ atB m a = x := fun x hx => by
      obtain ⟨a, ha, e⟩ := List.getElem_of_mem hx
      exact ⟨a, ha, by rw [atB_get m a ha, e]⟩
    have hnew := nth_new s hd j hj
    obtain ⟨c, hc, hce⟩ := hmem s[j] (hp.mem_iff.1 (List.getElem_mem _))
    refine sel_l2 m (s.take j) hm (by omega) s ?_ ⟨c, hc, by rw [hce]; exact hnew⟩ m.length 0 (-1) (by omega) (.inl ⟨rfl, fun a ha => absurd ha (by omega)⟩)
    intro b hb hbn hbl
    have e : atB m b = s[j] := by
      have h1 := hbl c hc (by rw [hce]; exact hnew)
      rw [hce] at h1
      have h2 := next_le s hs j hj (atB m b) (hp.mem_iff.2 (by rw [atB_get m b hb]; exact List.getElem_mem _)) hbn
      exact bl_inj (List.le_antisymm h1 h2)
    rw [e]
    have := sel_ev m s hm hp hs hd n (j + 1) (by omega)
    rwa [List.take_succ_eq_append_getElem hj] at this
theorem Flags_l0 (l : List ByteArray) (hl : l.length ≤ 9223372036854775807) (hz : ∀ x ∈ l, x.size ≤ 9223372036854775807) : ∀ (n i : Nat) (acc : List ByteArray), i + n = l.length → acc.length ≤ 20 → acc.Nodup → Ev (fun k => haversackref16_Flags.l0 k l acc i) (sortB (accM (l.drop i) acc))
  | 0, i, acc, h, ha, hd => by
    rw [List.drop_of_length_le (by omega)]
    show Ev _ (sortB acc)
    have hp := sortB_perm acc
    have := sel_ev acc (sortB acc) ha hp (sortB_pair acc) (hp.nodup_iff.2 hd) acc.length 0 (by omega)
    rw [List.take_zero] at this
    exact Ev.go (fun k => by rw [haversackref16_Flags.l0, if_neg (by omega)]) this
  | n + 1, i, acc, h, ha, hd => by
    have ih := Flags_l0 l hl hz n (i + 1)
    have hi : i < l.length := by omega
    rw [rdOf_drop l i hi]
    have hw : wrap64 ((i : Int) + 1) = ((i + 1 : Nat) : Int) := w64s (by omega)
    obtain ⟨x, hx⟩ : ∃ x, x = rdOf ByteArray.empty l (i : Int) := ⟨_, rfl⟩
    have hxm : x ∈ l := by rw [hx]; show atB l i ∈ l; rw [atB_get l i hi]; exact List.getElem_mem _
    rw [← hx]
    refine Ev.go (f := fun k => _) (fun k => by rw [haversackref16_Flags.l0, if_pos (by omega), if_pos (by omega), ← hx, hw]) ?_
    refine Ev.bd (Kept_ev x (hz x hxm)) ?_
    unfold accM
    by_cases h1 : bl (keptB x) = []
    · simp only [tl_bl, h1, true_or, if_true]
      exact ih acc (by omega) ha hd
    · simp only [tl_bl, h1, false_or, if_false]
      refine Ev.bd (in_ev acc (keptB x) (by omega)) ?_
      by_cases h2 : keptB x ∈ acc
      · simp only [h2, decide_true, true_or, if_true]
        exact ih acc (by omega) ha hd
      · simp only [h2, decide_false, Bool.false_eq_true, false_or, if_false]
        by_cases h3 : 20 ≤ acc.length
        · simp only [h3, show ¬ ((acc.length : Int) < 20) by omega, if_true, if_false]
          exact ih acc (by omega) ha hd
        · simp only [h3, show ((acc.length : Int) < 20) by omega, show acc.length < 8796093022208 by omega, if_true, if_false]
          refine ih _ (by omega) (by rw [List.length_append, List.length_singleton]; omega) (List.nodup_append.2 ⟨hd, by simp, fun a ha b hb => ?_⟩)
          rw [List.mem_singleton] at hb
          subst hb
          rintro rfl
          exact h2 ha
theorem sflags_l0 (l : List ByteArray) (hl : l.length ≤ 9223372036854775807) (hz : ∀ x ∈ l, x.size ≤ 9223372036854775807) : ∀ (n i : Nat) (acc : List ByteArray), i + n = l.length → acc.length ≤ 20 → Ev (fun k => search_Flags.l0 k l acc i) (sortB (accM (l.drop i) acc))
  | 0, i, acc, h, ha => by
    rw [List.drop_of_length_le (by omega)]
    exact Ev.now (fun k => by rw [search_Flags.l0, if_neg (by omega), if_pos (by omega)]; rfl)
  | n + 1, i, acc, h, ha => by
    have ih := sflags_l0 l hl hz n (i + 1)
    have hi : i < l.length := by omega
    rw [rdOf_drop l i hi]
    have hw : wrap64 ((i : Int) + 1) = ((i + 1 : Nat) : Int) := w64s (by omega)
    obtain ⟨x, hx⟩ : ∃ x, x = rdOf ByteArray.empty l (i : Int) := ⟨_, rfl⟩
    have hxm : x ∈ l := by rw [hx]; show atB l i ∈ l; rw [atB_get l i hi]; exact List.getElem_mem _
    rw [← hx]
    refine Ev.go (f := fun k => _) (fun k => by rw [search_Flags.l0, if_pos (by omega), if_pos (by omega), ← hx, hw]) ?_
    refine Ev.bd (kept_ev x (hz x hxm)) ?_
    unfold accM
    by_cases h1 : bl (keptB x) = []
    · simp only [tl_bl, h1, true_or, if_true]
      exact ih acc (by omega) ha
    · simp only [tl_bl, h1, false_or, if_false]
      refine Ev.bd (contains_ev acc (keptB x) (by omega)) ?_
      by_cases h2 : keptB x ∈ acc
      · simp only [h2, decide_true, true_or, if_true]
        exact ih acc (by omega) ha
      · simp only [h2, decide_false, Bool.false_eq_true, false_or, if_false]
        by_cases h3 : 20 ≤ acc.length
        · simp only [h3, show ¬ ((acc.length : Int) < 20) by omega, if_true, if_false]
          exact ih acc (by omega) ha
        · simp only [h3, show ((acc.length : Int) < 20) by omega, if_true, if_false]
          exact ih _ (by omega) (by rw [List.length_append, List.length_singleton]; omega)
theorem sflags_ev (l : List ByteArray) (hl : l.length ≤ 9223372036854775807) (hz : ∀ x ∈ l, x.size ≤ 9223372036854775807) : Ev (fun k => search_Flags.f k l) (sortB (accM l [])) := by
  have := sflags_l0 l hl hz l.length 0 [] (by omega) (by simp)
  rwa [List.drop_zero] at this
theorem Flags_ev (l : List ByteArray) (hl : l.length ≤ 9223372036854775807) (hz : ∀ x ∈ l, x.size ≤ 9223372036854775807) : Ev (fun k => haversackref16_Flags.f k l) (sortB (accM l [])) := by
  have := Flags_l0 l hl hz l.length 0 [] (by omega) (by simp) List.nodup_nil
  rwa [List.drop_zero] at this
end Go.Proofs.YtmpngedfnheilaaDoor.PP

namespace Go.Proofs.YtmpngedfnheilaaDoor.PP
open Go.RowKit Go.Proofs.YtmpngedfnheilaaDoorW.PrintWords Go.Proofs.YtmpngedfnheilaaDoorW.PrintLast Go.Proofs.YtmpngedfnheilaaDoorW.PrintMore
open Go.Proofs.YtmpngedfnheilaaDoor.My
set_option linter.unusedVariables false
set_option linter.unusedSimpArgs false
theorem rdR_map (l : List Pl) (i : Nat) (h : i < l.length) : rd_T84 (l.map toR) i = toR (rd_T74 l i) := by
  unfold rd_T84 rd_T74
  simp [List.getD_eq_getElem?_getD, List.getElem?_eq_getElem h]
theorem mapR_erase (l : List Pl) (i : Nat) : (l.map toR).eraseIdx i = (l.eraseIdx i).map toR := by
  rw [List.eraseIdx_eq_take_drop_succ, List.eraseIdx_eq_take_drop_succ, List.map_append, List.map_take, List.map_drop]
theorem growR_map (FL : List ByteArray → List ByteArray) : ∀ (ls : List Ml) (l : List Pl) (top : Int), growR FL ls (l.map toR) top = ((growL FL ls l top).1.map toR, (growL FL ls l top).2)
  | [], l, top => rfl
  | m :: ms, l, top => by
    unfold growR growL
    split
    · have := growR_map FL ms (l ++ [⟨m.f0, FL m.f1⟩]) m.f0
      rw [List.map_append] at this
      exact this
    · exact growR_map FL ms l top
theorem expR_map (ls : List Ml) : ∀ (n : Nat) (l : List Pl) (out : List Tl), n ≤ l.length → expR ls n (l.map toR) out = ((expL ls n l out).1.map toR, (expL ls n l out).2)
  | 0, l, out, _ => rfl
  | n + 1, l, out, h => by
    unfold expR expL
    rw [rdR_map l n (by omega)]
    show (if inU ls (rd_T74 l n).f0 = true then _ else _) = _
    split
    · exact expR_map ls n l out (by omega)
    · rw [mapR_erase]
      exact expR_map ls n (l.eraseIdx n) _ (by rw [List.length_eraseIdx_of_lt (by omega)]; omega)
theorem flgR_map (FL : List ByteArray → List ByteArray) (ls : List Ml) : ∀ (n i : Nat) (l : List Pl) (out : List Tl), i + n ≤ l.length → flgR FL ls n i (l.map toR) out = ((flgL FL ls n i l out).1.map toR, (flgL FL ls n i l out).2)
  | 0, i, l, out, _ => rfl
  | n + 1, i, l, out, h => by
    unfold flgR flgL
    rw [rdR_map l i (by omega)]
    show (if inU ls (rd_T74 l i).f0 = true ∧ (rd_T74 l i).f1 ≠ flagsU FL ls (rd_T74 l i).f0 then _ else _) = _
    split
    · have := flgR_map FL ls n (i + 1) (l.set i ⟨(rd_T74 l i).f0, flagsU FL ls (rd_T74 l i).f0⟩) (out ++ [⟨3, (i : Int) + 1, flagsU FL ls (rd_T74 l i).f0⟩]) (by rw [List.length_set]; omega)
      rw [List.map_set] at this
      exact this
    · exact flgR_map FL ls n (i + 1) l out (by omega)
theorem syncR_map (FL : List ByteArray → List ByteArray) (q : Bool) (ls : List Ml) (l : List Pl) (top : Int) : syncR FL q ls (l.map toR) top = (((syncL FL q ls l top).1.1.map toR, (syncL FL q ls l top).1.2), (syncL FL q ls l top).2) := by
  unfold syncR syncL
  have ha : (if q = true then (l.map toR, ([] : List Tl)) else expR ls (l.map toR).length (l.map toR) []) = ((if q = true then (l, ([] : List Tl)) else expL ls l.length l []).1.map toR, (if q = true then (l, ([] : List Tl)) else expL ls l.length l []).2) := by
    split
    · rfl
    · rw [List.length_map]
      exact expR_map ls l.length l [] (Nat.le_refl _)
  rw [ha]
  obtain ⟨a, ha⟩ : ∃ a, a = (if q = true then (l, ([] : List Tl)) else expL ls l.length l []) := ⟨_, rfl⟩
  rw [← ha]
  dsimp only
  rw [growR_map]
  dsimp only
  rw [List.length_map, List.length_map]
  rw [flgR_map FL ls _ 0 _ _ (by omega)]
theorem growR_len (FL : List ByteArray → List ByteArray) : ∀ (ms : List Ml) (l : List Rp) (top : Int), (growR FL ms l top).1.length ≤ l.length + ms.length
  | [], l, top => by simp [growR]
  | m :: ms, l, top => by
    unfold growR
    split
    · have := growR_len FL ms (l ++ [⟨m.f0, FL m.f1⟩]) m.f0
      rw [List.length_append, List.length_singleton] at this
      rw [List.length_cons]; omega
    · have := growR_len FL ms l top
      rw [List.length_cons]; omega
/-- A place of a UID is the same in both. -/
theorem place_same {l : List Pl} {top uid : Int} (hr : Ris l top) {n m : Nat} (hn : IsPlace l uid n) (hm : IsPlaceR (l.map toR) uid m) : m = n := by
  rcases hn with ⟨h1, h2, h3⟩ | ⟨h1, h2⟩
  · rcases hm with ⟨g1, g2, g3⟩ | ⟨g1, g2⟩
    · rw [List.length_map] at g2
      rw [rdR_map l (m - 1) (by omega)] at g3
      have g4 : (rd_T74 l (m - 1 : Nat)).f0 = uid := g3
      apply Classical.byContradiction
      intro hne
      rcases Nat.lt_or_gt_of_ne hne with hlt | hlt
      · have := hr.up (m - 1) (n - 1) (by omega) (by omega)
        omega
      · have := hr.up (n - 1) (m - 1) (by omega) (by omega)
        omega
    · have := g2 (n - 1) (by rw [List.length_map]; omega)
      rw [rdR_map l (n - 1) (by omega)] at this
      exact absurd h3 this
  · rcases hm with ⟨g1, g2, g3⟩ | ⟨g1, g2⟩
    · rw [List.length_map] at g2
      rw [rdR_map l (m - 1) (by omega)] at g3
      exact absurd g3 (h2 (m - 1) (by omega))
    · omega
/-- The document's Flags are the program's. -/
theorem FL_ref (l : List ByteArray) (h : Small l) : Ev (fun k => haversackref16_Flags.f k l) (FL l) := by
  have h1 := FL_ev l h
  have h2 := sflags_ev l h.1 h.2
  have h3 := Flags_ev l h.1 h.2
  obtain ⟨k1, h1⟩ := h1
  obtain ⟨k2, h2⟩ := h2
  have e := (h1 (max k1 k2) (by omega)).symm.trans (h2 (max k1 k2) (by omega))
  rw [Option.some.inj e]
  exact h3
theorem FLr_all : ∀ ls : List (List ByteArray), (∀ l ∈ ls, Small l) → ∃ kf, ∀ l ∈ ls, haversackref16_Flags.f kf l = some (FL l) := by
  have key : ∀ ls : List (List ByteArray), (∀ l ∈ ls, Small l) → ∃ K, ∀ k, K ≤ k → ∀ l ∈ ls, haversackref16_Flags.f k l = some (FL l) := by
    intro ls
    induction ls with
    | nil => exact fun _ => ⟨0, fun _ _ _ h => by cases h⟩
    | cons a ls ih =>
      intro h
      obtain ⟨K1, h1⟩ := FL_ref a (h a (List.mem_cons_self ..))
      obtain ⟨K2, h2⟩ := ih (fun l hl => h l (List.mem_cons_of_mem _ hl))
      refine ⟨max K1 K2, fun k hk l hl => ?_⟩
      rcases List.mem_cons.1 hl with rfl | hl
      · exact h1 k (by omega)
      · exact h2 k (by omega) l hl
  intro ls h
  obtain ⟨K, h⟩ := key ls h
  exact ⟨K, h K (Nat.le_refl _)⟩
theorem kfr_all (l0 : List Ml) (l1 : List Al) (q0 : ∀ z ∈ l0, Q43 z) (q1 : ∀ z ∈ l1, Q33 z) : ∃ kf, (∀ m ∈ l0, haversackref16_Flags.f kf m.f1 = some (FL m.f1)) ∧ (∀ a ∈ l1, haversackref16_Flags.f kf a.f3 = some (FL a.f3) ∧ ∀ m ∈ a.f1, haversackref16_Flags.f kf m.f1 = some (FL m.f1)) := by
  obtain ⟨kf, h⟩ := FLr_all (l0.map (·.f1) ++ l1.flatMap (fun a => a.f3 :: a.f1.map (·.f1))) (fun l hl => by
    rcases List.mem_append.1 hl with hl | hl
    · obtain ⟨m, hm, rfl⟩ := List.mem_map.1 hl
      exact small_mail (q0 m hm)
    · obtain ⟨a, ha, hl⟩ := List.mem_flatMap.1 hl
      rcases List.mem_cons.1 hl with rfl | hl
      · exact (small_act (q1 a ha)).1
      · obtain ⟨m, hm, rfl⟩ := List.mem_map.1 hl
        exact small_mail ((small_act (q1 a ha)).2.2 m hm))
  refine ⟨kf, fun m hm => h _ (List.mem_append_left _ (List.mem_map_of_mem hm)), fun a ha => ⟨h _ (List.mem_append_right _ (List.mem_flatMap.2 ⟨a, ha, List.mem_cons_self ..⟩)), fun m hm => h _ (List.mem_append_right _ (List.mem_flatMap.2 ⟨a, ha, List.mem_cons_of_mem _ (List.mem_map_of_mem hm)⟩))⟩⟩
theorem same16_l (l0 l1 : List ByteArray) (hl : l0.length = l1.length) (hb : l0.length ≤ 9223372036854775807) : ∀ (n i : Nat), i + n = l0.length → haversackref16_Same.l0 (n + 1) l0 l1 i = some (decide (l0.drop i = l1.drop i))
  | 0, i, h => by
    rw [haversackref16_Same.l0, if_neg (by omega), List.drop_of_length_le (by omega), List.drop_of_length_le (by omega)]
    simp
  | n + 1, i, h => by
    rw [haversackref16_Same.l0, if_pos (by omega), if_pos (by omega), if_pos (by omega), rdOf_drop l0 i (by omega), rdOf_drop l1 i (by omega)]
    rw [show wrap64 ((i : Int) + 1) = ((i + 1 : Nat) : Int) by unfold wrap64; omega, same16_l l0 l1 hl hb n (i + 1) (by omega)]
    by_cases he : rdOf ByteArray.empty l0 i = rdOf ByteArray.empty l1 i
    · rw [if_pos (ba_toList_inj.2 he), he]; simp
    · rw [if_neg (fun e => he (ba_toList_inj.1 e))]; simp [he]
theorem Same16_ev (l0 l1 : List ByteArray) (hb : l0.length ≤ 9223372036854775807) : ∃ k, haversackref16_Same.f k l0 l1 = some (decide (l0 = l1)) := by
  by_cases hl : l0.length = l1.length
  · refine ⟨l0.length + 1, ?_⟩
    rw [haversackref16_Same.f, if_pos (by omega)]
    have := same16_l l0 l1 hl hb l0.length 0 (by omega)
    simpa using this
  · refine ⟨0, ?_⟩
    rw [haversackref16_Same.f, if_neg (by omega)]
    have : ¬ l0 = l1 := fun e => hl (by rw [e])
    simp [this]
end Go.Proofs.YtmpngedfnheilaaDoor.PP
