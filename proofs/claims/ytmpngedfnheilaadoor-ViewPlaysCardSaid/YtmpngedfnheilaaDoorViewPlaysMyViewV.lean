/- YtmpngedfnheilaaDoorMyViewV, as far as ViewPlays needs it (prune.py). -/
import Derived.Test.YtmpngedfnheilaaDoorViewPlaysMyViewR
import Derived.Test.YtmpngedfnheilaaDoorViewPlaysPPx1
import Derived.Test.YtmpngedfnheilaaDoorViewPlaysPPx2
namespace Go.Proofs.YtmpngedfnheilaaDoor.PP
open Go.RowKit Go.Proofs.YtmpngedfnheilaaDoorW.PrintWords Go.Proofs.YtmpngedfnheilaaDoorW.PrintLast Go.Proofs.YtmpngedfnheilaaDoorW.PrintMore
open Go.Proofs.YtmpngedfnheilaaDoor.My
set_option linter.unusedVariables false
set_option linter.unusedSimpArgs false
/-- From some number of rounds on the answer is v. -/
def Ev {α : Type} (f : Nat → Option α) (v : α) : Prop := ∃ K, ∀ k, K ≤ k → f k = some v
def Tot {α : Type} (f : Nat → Option α) : Prop := ∃ v, Ev f v
section
variable {α β : Type} {g f : Nat → Option α} {r : α}
theorem Ev.go (h : ∀ k, g (k + 1) = f k) (t : Ev f r) : Ev g r := by
  obtain ⟨K, ht⟩ := t
  refine ⟨K + 1, fun k hk => ?_⟩
  obtain ⟨j, rfl⟩ : ∃ j, k = j + 1 := ⟨k - 1, by omega⟩
  rw [h, ht j (by omega)]
theorem Ev.now (h : ∀ k, g (k + 1) = some r) : Ev g r := Ev.go (f := fun _ => some r) h ⟨0, fun _ _ => rfl⟩
theorem Ev.ret (r : α) : Ev (fun _ => some r) r := ⟨0, fun _ _ => rfl⟩
theorem Ev.bd {f : Nat → α → Option β} {a : α} {r : β} (h : Ev g a) (k : Ev (fun n => f n a) r) : Ev (fun n => (g n).bind (f n)) r := by
  obtain ⟨K1, h1⟩ := h
  obtain ⟨K2, h2⟩ := k
  exact ⟨max K1 K2, fun k hk => by show (g k).bind (f k) = some r; rw [h1 k (by omega), Option.bind_some]; exact h2 k (by omega)⟩
theorem Ev.at {r : α} (h : Ev f r) : ∃ k, f k = some r := by
  obtain ⟨K, h⟩ := h
  exact ⟨K, h K (Nat.le_refl _)⟩
theorem Tot.go (h : ∀ k, g (k + 1) = f k) (t : Tot f) : Tot g := t.imp fun _ t => Ev.go h t
theorem Tot.now (h : ∀ k, g (k + 1) = some r) : Tot g := ⟨r, Ev.now h⟩
theorem Tot.ret (r : α) : Tot (fun _ => some r) := ⟨r, Ev.ret r⟩
theorem Tot.bd {f : Nat → α → Option β} (h : Tot g) (k : ∀ a, Tot (fun n => f n a)) : Tot (fun n => (g n).bind (f n)) := by
  obtain ⟨a, h⟩ := h
  exact (k a).imp fun _ k => Ev.bd h k
end
theorem w64s {i : Nat} (h : i < 9223372036854775807) : wrap64 ((i : Int) + 1) = ((i + 1 : Nat) : Int) := by unfold wrap64; omega
theorem hasPrefix_some (a b : ByteArray) : ∃ r, strings_HasPrefix.f a b = some r := by
  unfold strings_HasPrefix.f stringslite_HasPrefix.f
  by_cases h : (a.size : Int) ≥ (b.size : Int)
  · rw [if_pos h, if_pos (by omega), if_pos (by omega)]; exact ⟨_, rfl⟩
  · rw [if_neg h]; exact ⟨_, rfl⟩
theorem lower_some (a : ByteArray) (h : a.size ≤ 9223372036854775807) : ∃ r, words_Lower.f a = some r := by
  unfold words_Lower.f
  rw [if_pos h]; exact ⟨_, rfl⟩
theorem kept_l0 (a : ByteArray) (ys : List ByteArray) (ha : a.size ≤ 9223372036854775807) (hy : ∀ i : Nat, i < ys.length → (rdOf ByteArray.empty ys i).size ≤ 9223372036854775807) (hl : ys.length ≤ 1000) : ∀ (n i : Nat), i + n = ys.length → Tot (fun k => search_kept.l0 k a ys (ys.length : Int) i)
  | 0, i, h => Tot.now (fun k => by rw [search_kept.l0, if_neg (by omega)])
  | n + 1, i, h => by
    obtain ⟨r1, h1⟩ := lower_some _ (hy i (by omega))
    obtain ⟨r2, h2⟩ := lower_some a ha
    by_cases he : r1.toList = r2.toList
    · exact Tot.now (fun k => by rw [search_kept.l0, if_pos (by omega), if_pos (by omega), if_pos (by omega), h1, h2]; simp only [Option.bind_some]; rw [if_pos he])
    · refine Tot.go (f := fun k => search_kept.l0 k a ys (ys.length : Int) ((i + 1 : Nat) : Int)) (fun k => ?_) (kept_l0 a ys ha hy hl n (i + 1) (by omega))
      rw [search_kept.l0, if_pos (by omega), if_pos (by omega), if_pos (by omega), h1, h2]
      simp only [Option.bind_some]
      rw [if_neg he, w64s (by omega)]
theorem kept_l1 (a : ByteArray) (ha : a.size ≤ 9223372036854775807) : ∀ (n i : Nat), i + n = a.size → Tot (fun k => search_kept.l1 k a (a.size : Int) i)
  | 0, i, h => Tot.now (fun k => by rw [search_kept.l1, if_neg (by omega)])
  | n + 1, i, h => by
    by_cases h1 : bt a i < 33
    · exact Tot.now (fun k => by rw [search_kept.l1, if_pos (by omega), if_pos (by omega), if_pos (by omega), if_pos h1])
    by_cases h2 : bt a i > 126
    · exact Tot.now (fun k => by rw [search_kept.l1, if_pos (by omega), if_pos (by omega), if_pos (by omega), if_neg h1, if_pos h2])
    obtain ⟨t, ht⟩ : ∃ t, strings_IndexByte.f (⟨#[40, 41, 123, 125, 37, 42, 34, 92, 91, 93, 60, 62]⟩ : ByteArray) (bt a i) = some t := ⟨_, rfl⟩
    by_cases h3 : t ≥ 0
    · exact Tot.now (fun k => by rw [search_kept.l1, if_pos (by omega), if_pos (by omega), if_pos (by omega), if_neg h1, if_neg h2, ht, Option.bind_some, if_pos h3])
    · refine Tot.go (f := fun k => search_kept.l1 k a (a.size : Int) ((i + 1 : Nat) : Int)) (fun k => ?_) (kept_l1 a ha n (i + 1) (by omega))
      rw [search_kept.l1, if_pos (by omega), if_pos (by omega), if_pos (by omega), if_neg h1, if_neg h2, ht, Option.bind_some, if_neg h3, w64s (by omega)]
theorem kept_j1 (a : ByteArray) (ha : a.size ≤ 9223372036854775807) (b : Bool) : Tot (fun k => search_kept.j1 k a b) := by
  cases b with
  | true => exact Tot.now (fun k => by rw [search_kept.j1, if_pos rfl])
  | false => exact Tot.go (f := fun k => search_kept.l1 k a (a.size : Int) ((0 : Nat) : Int)) (fun k => by rw [search_kept.j1, if_neg (by decide)]; rfl) (kept_l1 a ha a.size 0 (by omega))
theorem kept_tot (a : ByteArray) (ha : a.size ≤ 9223372036854775807) : Tot (fun k => search_kept.f k a) := by
  obtain ⟨b, hb⟩ := hasPrefix_some a ⟨#[92]⟩
  unfold search_kept.f
  rw [hb]
  simp only [Option.bind_some]
  cases b with
  | true =>
    simp only [if_true]
    refine kept_l0 a _ ha (fun i hi => ?_) (by decide) 5 0 rfl
    simp only [List.length_cons, List.length_nil] at hi
    have : i = 0 ∨ i = 1 ∨ i = 2 ∨ i = 3 ∨ i = 4 := by omega
    rcases this with rfl | rfl | rfl | rfl | rfl <;> decide
  | false =>
    simp only [Bool.false_eq_true, if_false]
    by_cases h30 : (a.size : Int) > 30
    · simp only [if_pos h30]; exact kept_j1 a ha true
    · simp only [if_neg h30]
      obtain ⟨t, ht⟩ : ∃ t, strings_Trim.f a (⟨#[48, 49, 50, 51, 52, 53, 54, 55, 56, 57]⟩ : ByteArray) = some t := by
        unfold strings_Trim.f
        rw [if_pos ha, if_pos (by decide), if_pos (by decide)]
        exact ⟨_, rfl⟩
      obtain ⟨u, hu⟩ := lower_some a ha
      rw [ht, hu]
      simp only [Option.bind_some]
      by_cases hz : t.toList = ([] : List UInt8)
      · simp only [if_pos hz]; exact kept_j1 a ha true
      · simp only [if_neg hz]; exact kept_j1 a ha _
theorem index_l0 (l : List ByteArray) (a : ByteArray) (hl : l.length ≤ 1000) : ∀ (n i : Nat), i + n = l.length → Tot (fun k => slices_Index_string_string.l0 k l a (l.length : Int) i)
  | 0, i, h => Tot.now (fun k => by rw [slices_Index_string_string.l0, if_neg (by omega)])
  | n + 1, i, h => by
    by_cases he : a.toList = (rdOf ByteArray.empty l i).toList
    · exact Tot.now (fun k => by rw [slices_Index_string_string.l0, if_pos (by omega), if_pos (by omega), if_pos (by omega), if_pos he])
    · refine Tot.go (f := fun k => slices_Index_string_string.l0 k l a (l.length : Int) ((i + 1 : Nat) : Int)) (fun k => ?_) (index_l0 l a hl n (i + 1) (by omega))
      rw [slices_Index_string_string.l0, if_pos (by omega), if_pos (by omega), if_pos (by omega), if_neg he, w64s (by omega)]
theorem contains_tot (l : List ByteArray) (a : ByteArray) (hl : l.length ≤ 1000) : Tot (fun k => slices_Contains_string_string.f k l a) := by
  unfold slices_Contains_string_string.f slices_Index_string_string.f
  exact Tot.bd (index_l0 l a hl l.length 0 (by omega)) (fun t => Tot.ret _)
theorem flags_l0 (l : List ByteArray) (hl : l.length ≤ 9223372036854775807) (hs : ∀ i : Nat, i < l.length → (rdOf ByteArray.empty l i).size ≤ 9223372036854775807) : ∀ (n i : Nat) (acc : List ByteArray), i + n = l.length → acc.length ≤ 20 → Tot (fun k => search_Flags.l0 k l acc i)
  | 0, i, acc, h, ha => Tot.now (fun k => by rw [search_Flags.l0, if_neg (by omega), if_pos (by omega)])
  | n + 1, i, acc, h, ha => by
    refine Tot.go (f := fun k => (search_kept.f k (rdOf ByteArray.empty l i)).bind fun f => (if f.toList = ([] : List UInt8) then search_Flags.l0 k l acc ((i + 1 : Nat) : Int) else ((slices_Contains_string_string.f k acc f).bind fun c => (if c = true then search_Flags.l0 k l acc ((i + 1 : Nat) : Int) else (if (acc.length : Int) < 20 then search_Flags.l0 k l (acc ++ [f]) ((i + 1 : Nat) : Int) else search_Flags.l0 k l acc ((i + 1 : Nat) : Int)))))) (fun k => ?_) ?_
    · rw [search_Flags.l0, if_pos (by omega), if_pos (by omega), w64s (by omega)]
    · refine Tot.bd (kept_tot _ (hs i (by omega))) (fun f => ?_)
      have ih := flags_l0 l hl hs n (i + 1) acc (by omega) ha
      by_cases hz : f.toList = ([] : List UInt8)
      · simp only [if_pos hz]; exact ih
      · simp only [if_neg hz]
        refine Tot.bd (contains_tot acc f (by omega)) (fun c => ?_)
        cases c with
        | true => simp only [if_true]; exact ih
        | false =>
          simp only [Bool.false_eq_true, if_false]
          by_cases h20 : (acc.length : Int) < 20
          · simp only [if_pos h20]; exact flags_l0 l hl hs n (i + 1) (acc ++ [f]) (by omega) (by rw [List.length_append, List.length_singleton]; omega)
          · simp only [if_neg h20]; exact ih
/-- Texts as a program can have them. -/
def Small (l : List ByteArray) : Prop := l.length ≤ 9223372036854775807 ∧ ∀ f ∈ l, f.size ≤ 9223372036854775807
theorem Small.rd {l : List ByteArray} (h : Small l) (i : Nat) (hi : i < l.length) : (rdOf ByteArray.empty l i).size ≤ 9223372036854775807 := by
  refine h.2 _ ?_
  unfold rdOf
  simp [List.getD_eq_getElem?_getD, List.getElem?_eq_getElem hi]
theorem flags_tot (l : List ByteArray) (h : Small l) : Tot (fun k => search_Flags.f k l) := flags_l0 l h.1 (fun i hi => h.rd i hi) l.length 0 [] (by omega) (by simp)
open Classical in
/-- Flags as they are kept, whatever they are. -/
noncomputable def FL (l : List ByteArray) : List ByteArray := if h : Tot (fun k => search_Flags.f k l) then h.choose else []
theorem FL_ev (l : List ByteArray) (h : Small l) : Ev (fun k => search_Flags.f k l) (FL l) := by
  have ht := flags_tot l h
  unfold FL
  rw [dif_pos ht]
  exact ht.choose_spec
theorem FL_all : ∀ ls : List (List ByteArray), (∀ l ∈ ls, Small l) → ∃ kf, ∀ l ∈ ls, search_Flags.f kf l = some (FL l) := by
  have key : ∀ ls : List (List ByteArray), (∀ l ∈ ls, Small l) → ∃ K, ∀ k, K ≤ k → ∀ l ∈ ls, search_Flags.f k l = some (FL l) := by
    intro ls
    induction ls with
    | nil => exact fun _ => ⟨0, fun _ _ _ h => by cases h⟩
    | cons a ls ih =>
      intro h
      obtain ⟨K1, h1⟩ := FL_ev a (h a (List.mem_cons_self ..))
      obtain ⟨K2, h2⟩ := ih (fun l hl => h l (List.mem_cons_of_mem _ hl))
      refine ⟨max K1 K2, fun k hk l hl => ?_⟩
      rcases List.mem_cons.1 hl with rfl | hl
      · exact h1 k (by omega)
      · exact h2 k (by omega) l hl
  intro ls h
  obtain ⟨K, h⟩ := key ls h
  exact ⟨K, h K (Nat.le_refl _)⟩
theorem lflags_l0 (l : List ByteArray) (hl : l.length ≤ 9223372036854775807) : ∀ (n i : Nat) (x : Int), i + n = 61 → Tot (fun k => haversacklaw18_flags.l0 k l x i)
  | 0, i, x, h => by
    by_cases h1 : (i : Int) < (l.length : Int)
    · exact Tot.now (fun k => by rw [haversacklaw18_flags.l0, if_pos h1, if_neg (by omega)])
    · exact Tot.now (fun k => by rw [haversacklaw18_flags.l0, if_neg h1])
  | n + 1, i, x, h => by
    by_cases h1 : (i : Int) < (l.length : Int)
    · refine Tot.go (f := fun k => haversacklaw18_flags.l0 k l (wrap64 (x + (mn ((rdOf ByteArray.empty l i).size : Int) 5000))) ((i + 1 : Nat) : Int)) (fun k => ?_) (lflags_l0 l hl n (i + 1) _ (by omega))
      rw [haversacklaw18_flags.l0, if_pos h1, if_pos (by omega), if_pos (by omega), w64s (by omega)]
    · exact Tot.now (fun k => by rw [haversacklaw18_flags.l0, if_neg h1])
theorem lflags_tot (l : List ByteArray) (hl : l.length ≤ 9223372036854775807) : Tot (fun k => haversacklaw18_flags.f k l) := lflags_l0 l hl 61 0 _ (by omega)
theorem light_l0 (l : List Ml) (hl : l.length ≤ 9223372036854775807) (hs : ∀ i : Nat, i < l.length → (rd_T43 l i).f1.length ≤ 9223372036854775807) : ∀ (n i : Nat) (x : Int), i + n = 61 → Tot (fun k => haversacklaw18_light.l0 k l x i)
  | 0, i, x, h => by
    by_cases h1 : (i : Int) < (l.length : Int)
    · by_cases h2 : (l.length : Int) ≤ 60
      · exact Tot.now (fun k => by rw [haversacklaw18_light.l0, if_pos h1, if_neg (by omega), if_pos h2])
      · exact Tot.now (fun k => by rw [haversacklaw18_light.l0, if_pos h1, if_neg (by omega), if_neg h2])
    · by_cases h2 : (l.length : Int) ≤ 60
      · exact Tot.now (fun k => by rw [haversacklaw18_light.l0, if_neg h1, if_pos h2])
      · exact Tot.now (fun k => by rw [haversacklaw18_light.l0, if_neg h1, if_neg h2])
  | n + 1, i, x, h => by
    by_cases h1 : (i : Int) < (l.length : Int)
    · refine Tot.go (f := fun k => (haversacklaw18_flags.f k ((rd_T43 l i).f1)).bind fun t => (haversacklaw18_light.l0 k l (wrap64 (x + t)) ((i + 1 : Nat) : Int))) (fun k => ?_) (Tot.bd (lflags_tot _ (hs i (by omega))) (fun t => light_l0 l hl hs n (i + 1) _ (by omega)))
      rw [haversacklaw18_light.l0, if_pos h1, if_pos (by omega), if_pos (by omega), w64s (by omega)]
    · by_cases h2 : (l.length : Int) ≤ 60
      · exact Tot.now (fun k => by rw [haversacklaw18_light.l0, if_neg h1, if_pos h2])
      · exact Tot.now (fun k => by rw [haversacklaw18_light.l0, if_neg h1, if_neg h2])
theorem light_tot (l : List Ml) (hl : l.length ≤ 9223372036854775807) (hs : ∀ m ∈ l, m.f1.length ≤ 9223372036854775807) : Tot (fun k => haversacklaw18_light.f k l) := light_l0 l hl (fun i hi => hs _ (rd_mem l i hi)) 61 0 0 (by omega)
theorem light_few : ∀ (k : Nat) (l : List Ml) (x i : Int), haversacklaw18_light.l0 k l x i = some true → l.length ≤ 60
  | 0, _, _, _, h => by simp [haversacklaw18_light.l0] at h
  | k + 1, l, x, i, h => by
    rw [haversacklaw18_light.l0] at h
    by_cases h2 : (l.length : Int) ≤ 60
    · omega
    · rw [if_neg h2] at h
      split at h
      · split at h
        · split at h
          · obtain ⟨t, _, h⟩ := Option.bind_eq_some_iff.1 h
            exact light_few k _ _ _ h
          · cases h
        · cases h
      · cases h
abbrev Al := S33
theorem few_l0 (l : List Al) (hl : l.length ≤ 1000) (hs : ∀ i : Nat, i < l.length → ((rd_T33 l i).f1.length ≤ 9223372036854775807 ∧ ∀ m ∈ (rd_T33 l i).f1, m.f1.length ≤ 9223372036854775807) ∧ (rd_T33 l i).f3.length ≤ 9223372036854775807) : ∀ (n i : Nat), i + n = l.length → Tot (fun k => haversacklaw18_few.l0 k l (l.length : Int) i)
  | 0, i, h => Tot.now (fun k => by rw [haversacklaw18_few.l0, if_neg (by omega)])
  | n + 1, i, h => by
    have hh := hs i (by omega)
    refine Tot.go (f := fun k => (haversacklaw18_light.f k ((rd_T33 l i).f1)).bind fun t105 => (if t105 = true then ((haversacklaw18_flags.f k ((rd_T33 l i).f3)).bind fun t107 => (if t107 > 2000 then (some false) else (haversacklaw18_few.l0 k l (l.length : Int) ((i + 1 : Nat) : Int)))) else (some false))) (fun k => ?_) ?_
    · rw [haversacklaw18_few.l0, if_pos (by omega), if_pos (by omega), if_pos (by omega), w64s (by omega)]
    · refine Tot.bd (light_tot _ hh.1.1 hh.1.2) (fun t => ?_)
      cases t with
      | false => simp only [Bool.false_eq_true, if_false]; exact Tot.ret _
      | true =>
        simp only [if_true]
        refine Tot.bd (lflags_tot _ hh.2) (fun u => ?_)
        by_cases hu : u > 2000
        · simp only [if_pos hu]; exact Tot.ret _
        · simp only [if_neg hu]; exact few_l0 l hl hs n (i + 1) (by omega)
theorem few_tot (l : List Al) (hs : ∀ a ∈ l, (a.f1.length ≤ 9223372036854775807 ∧ ∀ m ∈ a.f1, m.f1.length ≤ 9223372036854775807) ∧ a.f3.length ≤ 9223372036854775807) : Tot (fun k => haversacklaw18_few.f k l) := by
  unfold haversacklaw18_few.f
  by_cases h : (l.length : Int) > 30
  · simp only [if_pos h]; exact Tot.ret _
  · simp only [if_neg h]
    refine few_l0 l (by omega) (fun i hi => hs _ ?_) l.length 0 (by omega)
    unfold rd_T33
    simp [List.getD_eq_getElem?_getD, List.getElem?_eq_getElem hi]
theorem few_light (l : List Al) : ∀ (k : Nat) (i n : Int), 0 ≤ i → haversacklaw18_few.l0 k l (l.length : Int) i = some true → l.length ≤ 1000 → ∀ j : Nat, i ≤ j → j < l.length → (rd_T33 l j).f1.length ≤ 60
  | 0, _, _, _, h, _ => by simp [haversacklaw18_few.l0] at h
  | k + 1, i, n, hi, h, hl => by
    intro j hij hj
    rw [haversacklaw18_few.l0, if_pos (by omega), if_pos hi, if_pos (by omega)] at h
    obtain ⟨t, ht, h⟩ := Option.bind_eq_some_iff.1 h
    cases t with
    | false => simp only [Bool.false_eq_true, if_false] at h; cases h
    | true =>
      simp only [if_true] at h
      obtain ⟨u, _, h⟩ := Option.bind_eq_some_iff.1 h
      by_cases hu : u > 2000
      · rw [if_pos hu] at h; cases h
      · rw [if_neg hu] at h
        by_cases he : i = j
        · subst he
          exact light_few _ _ _ _ ht
        · rw [show wrap64 (i + 1) = i + 1 by unfold wrap64; omega] at h
          exact few_light l k (i + 1) n (by omega) h hl j (by omega) hj
theorem few_says (k : Nat) (l : List Al) (h : haversacklaw18_few.f k l = some true) : l.length ≤ 30 ∧ ∀ a ∈ l, a.f1.length ≤ 60 := by
  unfold haversacklaw18_few.f at h
  by_cases h30 : (l.length : Int) > 30
  · rw [if_pos h30] at h; cases h
  · rw [if_neg h30] at h
    refine ⟨by omega, fun a ha => ?_⟩
    obtain ⟨j, hj, rfl⟩ := List.getElem_of_mem ha
    have := few_light l k 0 0 (Int.le_refl _) h (by omega) j (by omega) hj
    unfold rd_T33 at this
    simpa [List.getD_eq_getElem?_getD, List.getElem?_eq_getElem hj] using this
theorem light_says (k : Nat) (l : List Ml) (h : haversacklaw18_light.f k l = some true) : l.length ≤ 60 := light_few k l 0 0 h
end Go.Proofs.YtmpngedfnheilaaDoor.PP
