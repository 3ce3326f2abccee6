/- YtmpngedfnheilaaDoorMyViewY, as far as ViewPlays needs it (prune.py). -/
import Derived.Test.YtmpngedfnheilaaDoorViewPlaysMyViewM
import Derived.Test.YtmpngedfnheilaaDoorViewPlaysPPx20
import Derived.Test.YtmpngedfnheilaaDoorViewPlaysPPx13
namespace Go.Proofs.YtmpngedfnheilaaDoor.PP
open Go.RowKit Go.Proofs.YtmpngedfnheilaaDoorW.PrintWords Go.Proofs.YtmpngedfnheilaaDoorW.PrintLast Go.Proofs.YtmpngedfnheilaaDoorW.PrintMore
open Go.Proofs.YtmpngedfnheilaaDoor.My
set_option linter.unusedVariables false
set_option linter.unusedSimpArgs false
def us (l : List Pl) : List Int := l.map (·.f0)
theorem us_len (l : List Pl) : (us l).length = l.length := by simp [us]
theorem us_rd (l : List Pl) (i : Nat) (h : i < l.length) : (us l)[i]? = some (rd_T74 l i).f0 := by
  unfold us rd_T74
  simp [List.getD_eq_getElem?_getD, List.getElem?_eq_getElem h]
/-- Step by step: what is known, what is fresh still. -/
def folS : List Tl → List Int × List Int → Option (List Int × List Int)
  | [], s => some s
  | t :: ts, s =>
    if t.f0 = 1 ∧ 1 ≤ t.f1 ∧ t.f1 ≤ (s.1.length : Int) then folS ts (s.1.eraseIdx (t.f1 - 1).toNat, s.2)
    else if t.f0 = 2 ∧ (s.1.length : Int) ≤ t.f1 ∧ t.f1 - (s.1.length : Int) ≤ (s.2.length : Int) then folS ts (s.1 ++ s.2.take (t.f1 - (s.1.length : Int)).toNat, s.2.drop (t.f1 - (s.1.length : Int)).toNat)
    else if t.f0 = 3 ∧ 1 ≤ t.f1 ∧ t.f1 ≤ (s.1.length : Int) then folS ts s
    else none
theorem folS_L : ∀ (ts : List Tl) (own fresh o f : List Int), folS ts (own, fresh) = some (o, f) → ∀ us : List Tl, folL (ts ++ us) own fresh = folL us o f
  | [], own, fresh, o, f, h, us => by
    simp only [folS, Option.some.injEq, Prod.mk.injEq] at h
    rw [h.1, h.2]; rfl
  | t :: ts, own, fresh, o, f, h, us => by
    simp only [folS] at h
    rw [List.cons_append, folL]
    by_cases c1 : t.f0 = 1 ∧ 1 ≤ t.f1 ∧ t.f1 ≤ (own.length : Int)
    · rw [if_pos c1] at h ⊢
      exact folS_L ts _ _ o f h us
    · rw [if_neg c1] at h ⊢
      by_cases c2 : t.f0 = 2 ∧ (own.length : Int) ≤ t.f1 ∧ t.f1 - (own.length : Int) ≤ (fresh.length : Int)
      · rw [if_pos c2] at h ⊢
        exact folS_L ts _ _ o f h us
      · rw [if_neg c2] at h ⊢
        by_cases c3 : t.f0 = 3 ∧ 1 ≤ t.f1 ∧ t.f1 ≤ (own.length : Int)
        · rw [if_pos c3] at h ⊢
          exact folS_L ts _ _ o f h us
        · rw [if_neg c3] at h; cases h
theorem folS_app : ∀ (a b : List Tl) (s s1 : List Int × List Int), folS a s = some s1 → folS (a ++ b) s = folS b s1
  | [], b, s, s1, h => by
    simp only [folS, Option.some.injEq] at h
    rw [h]; rfl
  | t :: ts, b, s, s1, h => by
    simp only [folS, List.cons_append] at h ⊢
    split at h
    · rename_i c; rw [if_pos c]; exact folS_app ts b _ s1 h
    · rename_i c
      rw [if_neg c]
      split at h
      · rename_i c; rw [if_pos c]; exact folS_app ts b _ s1 h
      · rename_i c
        rw [if_neg c]
        split at h
        · rename_i c; rw [if_pos c]; exact folS_app ts b _ s1 h
        · cases h
theorem us_erase (l : List Pl) (i : Nat) : us (l.eraseIdx i) = (us l).eraseIdx i := by
  unfold us
  rw [List.eraseIdx_eq_take_drop_succ, List.eraseIdx_eq_take_drop_succ, List.map_append, List.map_take, List.map_drop]
theorem us_set (l : List Pl) (i : Nat) (f : List ByteArray) (h : i < l.length) : us (l.set i ⟨(rd_T74 l i).f0, f⟩) = us l := by
  apply List.ext_getElem?
  intro j
  unfold us
  simp only [List.map_set, List.getElem?_set, List.getElem?_map, List.length_map]
  by_cases hj : i = j
  · subst hj
    rw [if_pos rfl, if_pos h, List.getElem?_eq_getElem h]
    unfold rd_T74
    simp [List.getD_eq_getElem?_getD, List.getElem?_eq_getElem h]
  · rw [if_neg hj]
/-- What is told lies between 0 and n. -/
def InN (out : List Tl) (n : Int) : Prop := ∀ t ∈ out, 0 ≤ t.f1 ∧ t.f1 ≤ n
theorem exp_fol (ls : List Ml) (fresh : List Int) (N : Int) : ∀ (n : Nat) (l : List Pl) (out : List Tl), n ≤ l.length → (l.length : Int) ≤ N → ∃ told, (expL ls n l out).2 = out ++ told ∧ folS told (us l, fresh) = some (us (expL ls n l out).1, fresh) ∧ InN told N
  | 0, l, out, _, _ => ⟨[], by simp [expL], rfl, fun _ h => by cases h⟩
  | n + 1, l, out, hn, hN => by
    unfold expL
    split
    · exact exp_fol ls fresh N n l out (by omega) hN
    · have hl : (l.eraseIdx n).length = l.length - 1 := List.length_eraseIdx_of_lt (by omega)
      obtain ⟨told, h1, h2, h3⟩ := exp_fol ls fresh N n (l.eraseIdx n) (out ++ [⟨1, (n : Int) + 1, []⟩]) (by omega) (by omega)
      refine ⟨⟨1, (n : Int) + 1, []⟩ :: told, by rw [h1, List.append_assoc]; rfl, ?_, ?_⟩
      · rw [folS, if_pos (by rw [us_len]; exact ⟨rfl, by show (1 : Int) ≤ (n : Int) + 1; omega, by show (n : Int) + 1 ≤ _; omega⟩)]
        show folS told ((us l).eraseIdx (((n : Int) + 1) - 1).toNat, fresh) = _
        rw [show (((n : Int) + 1) - 1).toNat = n by omega, ← us_erase]
        exact h2
      · intro t ht
        rcases List.mem_cons.1 ht with rfl | ht
        · show 0 ≤ (n : Int) + 1 ∧ (n : Int) + 1 ≤ N
          omega
        · exact h3 t ht
theorem exp_sub (ls : List Ml) : ∀ (n : Nat) (l : List Pl) (out : List Tl), (us (expL ls n l out).1).Sublist (us l)
  | 0, l, out => by simp [expL]
  | n + 1, l, out => by
    unfold expL
    split
    · exact exp_sub ls n l out
    · refine (exp_sub ls n (l.eraseIdx n) _).trans ?_
      rw [us_erase]
      exact List.eraseIdx_sublist ..
/-- The UIDs of those that are new. -/
def freshG : List Ml → Int → List Int
  | [], _ => []
  | m :: ms, t => if t < m.f0 then m.f0 :: freshG ms m.f0 else freshG ms t
theorem grow_us : ∀ (ls : List Ml) (l : List Pl) (top : Int), us (growL FL ls l top).1 = us l ++ freshG ls top
  | [], l, top => by simp [growL, freshG]
  | m :: ms, l, top => by
    unfold growL freshG
    split
    · rw [grow_us ms]
      simp [us]
    · exact grow_us ms l top
theorem grow_top : ∀ (ls : List Ml) (l : List Pl) (top : Int), (growL FL ls l top).2 = (freshG ls top).getLast?.getD top
  | [], l, top => by simp [growL, freshG]
  | m :: ms, l, top => by
    unfold growL freshG
    split
    · rw [grow_top ms]
      simp [List.getLast?_cons]
    · exact grow_top ms l top
theorem fresh_gt : ∀ (ls : List Ml) (top : Int), ∀ u ∈ freshG ls top, top < u
  | [], top, u, h => by cases h
  | m :: ms, top, u, h => by
    unfold freshG at h
    split at h
    · rcases List.mem_cons.1 h with rfl | h
      · assumption
      · have := fresh_gt ms m.f0 u h; omega
    · exact fresh_gt ms top u h
theorem flg_fol (ls : List Ml) (fr : List Int) (N : Int) : ∀ (n i : Nat) (l : List Pl) (out : List Tl), i + n ≤ l.length → (l.length : Int) ≤ N → ∃ told, (flgL FL ls n i l out).2 = out ++ told ∧ folS told (us l, fr) = some (us l, fr) ∧ us (flgL FL ls n i l out).1 = us l ∧ InN told N
  | 0, i, l, out, _, _ => ⟨[], by simp [flgL], rfl, rfl, fun _ h => by cases h⟩
  | n + 1, i, l, out, hn, hN => by
    unfold flgL
    split
    · have hu := us_set l i (flagsU FL ls (rd_T74 l i).f0) (by omega)
      obtain ⟨told, h1, h2, h3, h4⟩ := flg_fol ls fr N n (i + 1) (l.set i ⟨(rd_T74 l i).f0, flagsU FL ls (rd_T74 l i).f0⟩) (out ++ [⟨3, (i : Int) + 1, flagsU FL ls (rd_T74 l i).f0⟩]) (by rw [List.length_set]; omega) (by rw [List.length_set]; omega)
      rw [hu] at h2 h3
      refine ⟨⟨3, (i : Int) + 1, flagsU FL ls (rd_T74 l i).f0⟩ :: told, by rw [h1, List.append_assoc]; rfl, ?_, h3, ?_⟩
      · rw [folS, if_neg (fun h => absurd (show (3 : Int) = 1 from h.1) (by decide)), if_neg (fun h => absurd (show (3 : Int) = 2 from h.1) (by decide)), if_pos ⟨rfl, by show (1 : Int) ≤ (i : Int) + 1; omega, by rw [us_len]; show (i : Int) + 1 ≤ _; omega⟩]
        exact h2
      · intro t ht
        rcases List.mem_cons.1 ht with rfl | ht
        · show 0 ≤ (i : Int) + 1 ∧ (i : Int) + 1 ≤ N
          omega
        · exact h4 t ht
    · exact flg_fol ls fr N n (i + 1) l out (by omega) hN
theorem sync_fol (q : Bool) (ls : List Ml) (l : List Pl) (top : Int) (l' : List Pl) (top' : Int) (out : List Tl) (h : syncL FL q ls l top = ((l', top'), out)) :
    folL out (us l) (freshG ls top) = (us l', true) ∧ (q = true → us l' = us l ++ freshG ls top) ∧ top' = (freshG ls top).getLast?.getD top ∧ InN out ((l.length : Int) + ls.length) ∧ (∀ u ∈ us l', u ∈ us l ∨ top < u) ∧ (freshG ls top ≠ [] → (us l').getLast? = (freshG ls top).getLast?) := by
  obtain ⟨a, ha⟩ : ∃ a : List Pl × List Tl, a = if q = true then (l, []) else expL ls l.length l [] := ⟨_, rfl⟩
  have hA : ∃ told, a.2 = told ∧ folS told (us l, freshG ls top) = some (us a.1, freshG ls top) ∧ InN told (l.length : Int) := by
    rw [ha]
    split
    · exact ⟨[], rfl, rfl, fun _ h => by cases h⟩
    · obtain ⟨told, h1, h2, h3⟩ := exp_fol ls (freshG ls top) (l.length : Int) l.length l [] (Nat.le_refl _) (Int.le_refl _)
      exact ⟨told, by simpa using h1, h2, h3⟩
  have hsub : (us a.1).Sublist (us l) := by
    rw [ha]
    split
    · exact List.Sublist.refl _
    · exact exp_sub ls _ _ _
  have hqq : q = true → us a.1 = us l := fun hq => by rw [ha, if_pos hq]
  have hal : a.1.length ≤ l.length := by have := hsub.length_le; rwa [us_len, us_len] at this
  obtain ⟨told, ht, hf, hin⟩ := hA
  have hgu := grow_us ls a.1 top
  have hgl := growL_len FL ls a.1 top
  have hgt := grow_top ls a.1 top
  obtain ⟨b, hb⟩ : ∃ b, b = growL FL ls a.1 top := ⟨_, rfl⟩
  rw [← hb] at hgu hgl hgt
  have hbl : b.1.length = a.1.length + (freshG ls top).length := by
    have := congrArg List.length hgu
    rwa [List.length_append, us_len, us_len] at this
  -- what is told of those that are new
  obtain ⟨o2, ho2⟩ : ∃ o2 : List Tl, o2 = if a.1.length < b.1.length then [(⟨2, (b.1.length : Int), []⟩ : Tl)] else [] := ⟨_, rfl⟩
  have hf2 : ∃ fr, folS o2 (us a.1, freshG ls top) = some (us b.1, fr) := by
    rw [ho2]
    split
    · refine ⟨[], ?_⟩
      have hn : ((b.1.length : Int) - ((us a.1).length : Int)).toNat = (freshG ls top).length := by rw [us_len]; omega
      rw [folS, if_neg (fun h => absurd (show (2 : Int) = 1 from h.1) (by decide)), if_pos ⟨rfl, by have := us_len a.1; show ((us a.1).length : Int) ≤ (b.1.length : Int); omega, by have := us_len a.1; show (b.1.length : Int) - ((us a.1).length : Int) ≤ ((freshG ls top).length : Int); omega⟩]
      simp only [hn, List.take_length, List.drop_length, folS]
      rw [hgu]
    · refine ⟨freshG ls top, ?_⟩
      have h0 : freshG ls top = [] := List.eq_nil_of_length_eq_zero (by omega)
      rw [folS, hgu, h0, List.append_nil]
  obtain ⟨fr, hf2⟩ := hf2
  have hin2 : InN o2 ((l.length : Int) + ls.length) := by
    rw [ho2]
    split
    · intro t ht
      rw [List.mem_singleton] at ht
      subst ht
      show 0 ≤ (b.1.length : Int) ∧ (b.1.length : Int) ≤ _
      omega
    · exact fun _ h => by cases h
  have hout : (if a.1.length < b.1.length then a.2 ++ [(⟨2, (b.1.length : Int), []⟩ : Tl)] else a.2) = told ++ o2 := by
    rw [ho2, ht]
    split
    · rfl
    · rw [List.append_nil]
  obtain ⟨t3, h31, h32, h33, h34⟩ := flg_fol ls fr ((l.length : Int) + ls.length) b.1.length 0 b.1 (told ++ o2) (by omega) (by omega)
  have hs : syncL FL q ls l top = (((flgL FL ls b.1.length 0 b.1 (told ++ o2)).1, b.2), (flgL FL ls b.1.length 0 b.1 (told ++ o2)).2) := by
    unfold syncL
    rw [← ha]
    dsimp only
    rw [← hb, hout]
  rw [hs] at h
  simp only [Prod.mk.injEq] at h
  obtain ⟨⟨rfl, rfl⟩, rfl⟩ := h
  refine ⟨?_, fun hq => by rw [h33, hgu, hqq hq], hgt, ?_, fun u hu => ?_, fun hne => ?_⟩
  · rw [h31]
    have e1 := folS_app told (o2 ++ t3) _ _ hf
    have e2 := folS_app o2 t3 _ _ hf2
    have e3 : folS (told ++ (o2 ++ t3)) (us l, freshG ls top) = some (us b.1, fr) := by rw [e1, e2, h32]
    have e4 := folS_L _ _ _ _ _ e3 []
    rw [List.append_nil] at e4
    rw [List.append_assoc, e4, folL, h33]
  · rw [h31]
    intro t ht
    rw [List.append_assoc] at ht
    rcases List.mem_append.1 ht with ht | ht
    · have := hin t ht; omega
    · rcases List.mem_append.1 ht with ht | ht
      · exact hin2 t ht
      · exact h34 t ht
  · rw [h33, hgu] at hu
    rcases List.mem_append.1 hu with hu | hu
    · exact .inl (hsub.subset hu)
    · exact .inr (fresh_gt ls top u hu)
  · rw [h33, hgu, List.getLast?_append]
    cases hg : (freshG ls top).getLast? with
    | none => exact absurd (List.getLast?_eq_none_iff.1 hg) hne
    | some x => rfl
theorem fresh_len : ∀ (ls : List Ml) (t : Int), (freshG ls t).length ≤ ls.length
  | [], _ => by simp [freshG]
  | m :: ms, t => by
    unfold freshG
    split
    · have := fresh_len ms m.f0; simp; omega
    · have := fresh_len ms t; simp; omega
/-- What is new by a call. -/
def newU (a : Al) (top : Int) : List Int := if a.f0 = 0 ∨ a.f0 = 1 then freshG (risL a.f1 0) top else []
structure DoF (a : Al) (l : List Pl) (top : Int) (l' : List Pl) (top' : Int) (out : List Tl) : Prop where
  fol : folL out (us l) (newU a top) = (us l', true)
  quiet : a.f0 = 1 → us l' = us l ++ newU a top
  last : top' = (newU a top).getLast?.getD top
  within : InN out 1000000000
  mem : ∀ u ∈ us l', u ∈ us l ∨ top < u
  ris : Ris l' top'
  le : top ≤ top'
  len : l'.length ≤ l.length + a.f1.length
  lastU : newU a top ≠ [] → (us l').getLast? = (newU a top).getLast?
theorem last_ge (l : List Int) (top : Int) (h : ∀ u ∈ l, top < u) : top ≤ l.getLast?.getD top := by
  cases hl : l.getLast? with
  | none => simp
  | some x =>
    have := h x (List.mem_of_getLast? hl)
    simp
    omega
theorem DoR.facts {a : Al} {l : List Pl} {top : Int} {l' : List Pl} {top' : Int} {out : List Tl} (h : DoR a l top l' top' out) (hr : Ris l top) (hl : l.length + a.f1.length ≤ 1000000) : DoF a l top l' top' out := by
  by_cases hs : a.f0 = 0 ∨ a.f0 = 1
  · have he := h.sync hs
    obtain ⟨h1, h2, h3, h4, h5, h6⟩ := sync_fol _ _ l top l' top' out he
    have hrl := risL_len a.f1 0
    have hris := Ris.sync FL (decide (a.f0 = 1)) a.f1 l top hr (by omega)
    rw [he] at hris
    have hlen : l'.length ≤ l.length + a.f1.length := by
      have hh := folL_len out (us l) (freshG (risL a.f1 0) top)
      rw [h1, us_len, us_len] at hh
      have : (freshG (risL a.f1 0) top).length ≤ (risL a.f1 0).length := fresh_len _ _
      omega
    refine ⟨?_, fun hq => ?_, ?_, fun t ht => by have := h4 t ht; omega, h5, hris, ?_, hlen, by rw [newU, if_pos hs]; exact h6⟩
    · rw [newU, if_pos hs]; exact h1
    · rw [newU, if_pos hs]; exact h2 (decide_eq_true hq)
    · rw [newU, if_pos hs]; exact h3
    · rw [h3]; exact last_ge _ _ (fresh_gt _ _)
  · by_cases h2 : a.f0 = 2
    · obtain ⟨rfl, rfl, n, hn, rfl⟩ := h.note h2
      have hu : us (if n = 0 then l else l.set (n - 1) ⟨a.f2, FL a.f3⟩) = us l ∧ Ris (if n = 0 then l else l.set (n - 1) ⟨a.f2, FL a.f3⟩) top' ∧ (if n = 0 then l else l.set (n - 1) ⟨a.f2, FL a.f3⟩).length ≤ l.length := by
        split
        · exact ⟨rfl, hr, Nat.le_refl _⟩
        · rename_i hz
          obtain ⟨n1, n2, n3⟩ := hn.resolve_right (fun h => hz h.1)
          rw [← n3]
          exact ⟨us_set l (n - 1) _ (by omega), hr.set (n - 1) (by omega) _, by simp⟩
      exact ⟨by rw [hu.1]; rfl, fun hq => absurd (Or.inr hq) hs, by rw [newU, if_neg hs]; rfl, (fun _ h => by cases h), (fun u hm => by rw [hu.1] at hm; exact .inl hm), hu.2.1, Int.le_refl _, by have := hu.2.2; omega, fun h => absurd (show newU a top' = [] by rw [newU, if_neg hs]) h⟩
    · obtain ⟨rfl, rfl, rfl⟩ := h.none (fun e => hs (.inl e)) (fun e => hs (.inr e)) h2
      exact ⟨rfl, fun hq => absurd (Or.inr hq) hs, by rw [newU, if_neg hs]; rfl, (fun _ h => by cases h), (fun u hm => .inl hm), hr, Int.le_refl _, by omega, fun h => absurd (show newU a top' = [] by rw [newU, if_neg hs]) h⟩
theorem risL_ev (l : List Ml) (hl : l.length ≤ 1000000000) : ∀ (n i : Nat) (acc : List Ml) (t : Int), i + n = l.length → acc.length ≤ i → Ev (fun k => haversackref18_Rising.l0 k l acc t i) (acc ++ risL (l.drop i) t)
  | 0, i, acc, t, h, _ => by
    rw [List.drop_of_length_le (by omega), risL, List.append_nil]
    exact Ev.now (fun k => by rw [haversackref18_Rising.l0, if_neg (by omega)])
  | n + 1, i, acc, t, h, ha => by
    rw [risL_drop l i (by omega)]
    by_cases ht : (rd_T43 l i).f0 > t
    · rw [if_pos ht]
      have ih := risL_ev l hl n (i + 1) (acc ++ [rd_T43 l i]) (rd_T43 l i).f0 (by omega) (by rw [List.length_append, List.length_singleton]; omega)
      rw [List.append_assoc] at ih
      exact Ev.go (fun k => by rw [haversackref18_Rising.l0, if_pos (by omega), if_pos (by omega), if_pos ht, if_pos (by omega), w64s (by omega)]) ih
    · rw [if_neg ht]
      exact Ev.go (fun k => by rw [haversackref18_Rising.l0, if_pos (by omega), if_pos (by omega), if_neg ht, w64s (by omega)]) (risL_ev l hl n (i + 1) acc t (by omega) (by omega))
theorem Rising_ev (l : List Ml) (hl : l.length ≤ 1000000000) : Ev (fun k => haversackref18_Rising.f k l) (risL l 0) := by
  have := risL_ev l hl l.length 0 [] 0 (by omega) (by simp)
  rwa [List.drop_zero, List.nil_append] at this
end Go.Proofs.YtmpngedfnheilaaDoor.PP
