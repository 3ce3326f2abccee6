/-
  Names in parts: Parts, Join, Up, Same, Under, Moved of names and of the document, over lists of bytes.
-/
import Derived.Test.YtnkibbfpmhgeaaaDoorPPx5
import Derived.Test.YtnkibbfpmhgeaaaDoorPPx20
import Derived.Test.YtnkibbfpmhgeaaaDoorPPx22
import Derived.Test.YtnkibbfpmhgeaaaDoorPPx23
import Derived.Test.YtnkibbfpmhgeaaaDoorPPx24
import Derived.Test.YtnkibbfpmhgeaaaDoorPPx24
import Derived.Test.YtnkibbfpmhgeaaaDoorPPx23
import Derived.Test.YtnkibbfpmhgeaaaDoorPPx19
import Derived.Test.YtnkibbfpmhgeaaaDoorMyNamesM
namespace Go.Proofs.YtnkibbfpmhgeaaaDoor.Pure
open Go.RowKit Go.Proofs.YtnkibbfpmhgeaaaDoor.PP Go.Proofs.YtnkibbfpmhgeaaaDoor.My Go.Proofs.YtnkibbfpmhgeaaaDoorW.PrintWords Go.Proofs.YtnkibbfpmhgeaaaDoorW.PrintLast
set_option linter.unusedVariables false
set_option linter.unusedSimpArgs false
theorem alive_ev : Ev haversacklaw07_alive.f true := ⟨60, fun k hk => alive_k hk⟩
theorem Ev.bd {α β : Type} {g : Nat → Option α} {f : Nat → α → Option β} {a : α} {r : β} (h : Ev g a) (k : Ev (fun n => f n a) r) : Ev (fun n => (g n).bind (f n)) r := by
  obtain ⟨K, hK⟩ := h
  obtain ⟨M, hM⟩ := k
  refine ⟨K + M, fun n hn => ?_⟩
  simp only [hK n (by omega), Option.bind_some]
  exact hM n (by omega)
theorem Ev.ret {α : Type} (r : α) : Ev (fun _ => some r) r := ⟨0, fun _ _ => rfl⟩
theorem Ev.pure {α : Type} {o : Option α} {r : α} (h : o = some r) : Ev (fun _ => o) r := ⟨0, fun _ _ => h⟩
theorem Ev.go {α : Type} {g f : Nat → Option α} {r : α} (h : ∀ k, g (k + 1) = f k) (k : Ev f r) : Ev g r := Ev.next h k
abbrev B (l : List UInt8) : ByteArray := ⟨l.toArray⟩
theorem ba_drop (l : List UInt8) (i : Nat) : (B l).extract i l.length = B (l.drop i) := by
  rw [ba_cut, List.take_of_length_le (by simp)]
theorem getD_at (l : List UInt8) (i : Nat) (h : i < l.length) : l.getD i 0 = l[i] := by rw [List.getD_eq_getElem?_getD, List.getElem?_eq_getElem h]; rfl
theorem rd_at {α : Type} (d : α) (xs : List α) (i : Nat) (h : i < xs.length) : rdOf d xs (i : Int) = xs[i] := by
  unfold rdOf
  simp [List.getD_eq_getElem?_getD, h]
theorem rd_last {α : Type} (d : α) (xs : List α) (x : α) : rdOf d (xs ++ [x]) (xs.length : Int) = x := by
  rw [rd_at _ _ _ (by simp)]; simp
theorem set_last {α : Type} (xs : List α) (x y : α) : (xs ++ [x]).set xs.length y = xs ++ [y] := by
  rw [List.set_append_right _ _ (Nat.le_refl _)]; simp

/-! ### a name's parts -/
def partsA (cur : List UInt8) : List UInt8 → List (List UInt8)
  | [] => [cur]
  | c :: s => if c = 47 then cur :: partsA [] s else partsA (cur ++ [c]) s
theorem partsA_ne : ∀ (s cur : List UInt8), partsA cur s ≠ []
  | [], cur => by simp [partsA]
  | c :: s, cur => by
    unfold partsA
    split
    · simp
    · exact partsA_ne s _
theorem partsA_hit : ∀ (p s cur : List UInt8), (∀ x, x ∈ p → x ≠ 47) → partsA cur (p ++ 47 :: s) = (cur ++ p) :: partsA [] s
  | [], s, cur, _ => by simp [partsA]
  | c :: p, s, cur, h => by
    rw [List.cons_append, partsA, if_neg (h c (List.mem_cons_self ..)), partsA_hit p s _ (fun x hx => h x (List.mem_cons_of_mem _ hx))]
    simp
theorem partsA_miss : ∀ (p cur : List UInt8), (∀ x, x ∈ p → x ≠ 47) → partsA cur p = [cur ++ p]
  | [], cur, _ => by simp [partsA]
  | c :: p, cur, h => by
    rw [partsA, if_neg (h c (List.mem_cons_self ..)), partsA_miss p _ (fun x hx => h x (List.mem_cons_of_mem _ hx))]
    simp
theorem partsA_app : ∀ (a b cur : List UInt8), partsA cur (a ++ 47 :: b) = partsA cur a ++ partsA [] b
  | [], b, cur => by simp [partsA]
  | c :: a, b, cur => by
    rw [List.cons_append, partsA, partsA]
    split
    · rw [partsA_app a b]; rfl
    · exact partsA_app a b _
theorem partsA_len : ∀ (s cur : List UInt8), (partsA cur s).length ≤ s.length + 1
  | [], cur => by simp [partsA]
  | c :: s, cur => by
    unfold partsA
    split
    · have := partsA_len s []; simp only [List.length_cons]; omega
    · have := partsA_len s (cur ++ [c]); simp only [List.length_cons]; omega
theorem pieces_parts : ∀ (n : Nat) (l : List UInt8), l.length ≤ n → pieces 47 (B l) = (partsA [] l).map B := by
  intro n
  induction n with
  | zero =>
    intro l hl
    obtain rfl : l = [] := List.eq_nil_of_length_eq_zero (by omega)
    rfl
  | succ n ih =>
    intro l hl
    have hix : Lib.indexB (B l) ⟨#[47]⟩ = Lib.indexByte l 47 := Lib.index_one l 47
    by_cases h : Lib.indexByte l 47 = -1
    · unfold pieces
      rw [Lib.splitB_miss _ _ _ _ (hix.trans h), partsA_miss l [] ?_]
      · rfl
      · intro x hx e
        obtain ⟨i, hi, rfl⟩ := List.getElem_of_mem hx
        exact Lib.indexByte_none h i (by rw [List.getElem?_eq_getElem hi, e])
    · have hge := Lib.indexByte_ge l 47
      obtain ⟨i, hi⟩ : ∃ i : Nat, Lib.indexByte l 47 = i := ⟨(Lib.indexByte l 47).toNat, by omega⟩
      obtain ⟨h1, h2⟩ := Lib.indexByte_some hi
      have hil : i < l.length := (List.getElem?_eq_some_iff.1 h1).1
      have hl2 : l = l.take i ++ 47 :: l.drop (i + 1) := by
        have := (List.getElem?_eq_some_iff.1 h1).2
        rw [← this, ← List.drop_eq_getElem_cons hil, List.take_append_drop]
      have hp : ∀ x, x ∈ l.take i → x ≠ 47 := by
        intro x hx e
        obtain ⟨j, hj, rfl⟩ := List.getElem_of_mem hx
        rw [List.length_take] at hj
        exact h2 j (by omega) (by rw [List.getElem?_eq_getElem (by omega), ← e]; simp)
      have hr : (B l).extract (i + (⟨#[47]⟩ : ByteArray).size) (B l).size = B (l.drop (i + 1)) := by rw [ba_size]; exact ba_drop l (i + 1)
      have hz : pieces 47 (B (l.drop (i + 1))) = (partsA [] (l.drop (i + 1))).map B := ih _ (by rw [List.length_drop]; omega)
      unfold pieces at hz ⊢
      rw [Lib.countB_hit _ _ i (by decide) (hix.trans hi), Nat.add_comm, Lib.splitB_hit _ _ _ _ i (hix.trans hi), hr, hz]
      conv => rhs; rw [hl2, partsA_hit _ _ _ hp]
      rw [List.map_cons, Nat.add_zero, ba_cut]
      simp
theorem names_parts_f (l : List UInt8) (h : l.length < 4294967281) : names_Parts.f (B l) = some ((partsA [] l).map B) := by
  unfold names_Parts.f
  rw [ba_size, if_pos h, pieces_parts _ l (Nat.le_refl _)]
theorem rparts_l0 (l : List UInt8) (hl : l.length ≤ 1000000) : ∀ d i : Nat, i + d = l.length → ∀ (init : List (List UInt8)) (cur : List UInt8), init.length ≤ i → cur.length ≤ i →
    Ev (fun k => haversackref07_Parts.l0 k (B l) ((init ++ [cur]).map B) (i : Int)) ((init ++ partsA cur (l.drop i)).map B) := by
  intro d
  induction d with
  | zero =>
    intro i hi init cur h1 h2
    refine Ev.now fun k => ?_
    rw [haversackref07_Parts.l0, ba_size, if_neg (by omega), List.drop_eq_nil_iff.2 (by omega)]
    rfl
  | succ d ih =>
    intro i hi init cur h1 h2
    have hil : i < l.length := by omega
    have hw : wrap64 ((i : Int) + 1) = ((i + 1 : Nat) : Int) := by rw [w64 (by omega)]; omega
    have hx : ((((init ++ [cur]).map B).length : Nat) : Int) = (init.length : Int) + 1 := by simp
    have hx2 : ((init ++ [cur]).map B).length = init.length + 1 := by simp
    have hm : (init ++ [cur]).map B = init.map B ++ [B cur] := by simp
    rw [List.drop_eq_getElem_cons hil]
    by_cases e : l[i] = 47
    · have R : init ++ partsA cur (l[i] :: l.drop (i + 1)) = (init ++ [cur]) ++ partsA [] (l.drop (i + 1)) := by simp [partsA, e]
      rw [R]
      refine Ev.go (fun k => ?_) (ih (i + 1) (by omega) (init ++ [cur]) [] (by simp; omega) (by simp))
      have he : (((l.getD i 0).toNat : Int) = 47) := by rw [getD_at l i hil, e]; rfl
      rw [haversackref07_Parts.l0, ba_size, if_pos (by omega), if_pos (by omega), btn, if_pos he, if_pos (by omega), hw]
      simp
    · have R : init ++ partsA cur (l[i] :: l.drop (i + 1)) = init ++ partsA (cur ++ [l[i]]) (l.drop (i + 1)) := by simp [partsA, e]
      rw [R]
      refine Ev.go (fun k => ?_) (ih (i + 1) (by omega) init (cur ++ [l[i]]) (by omega) (by simp; omega))
      have he : ¬ (((l.getD i 0).toNat : Int) = 47) := by rw [getD_at l i hil]; exact fun h => e ((u8i l[i] 47).mp h)
      have hrd : rdOf ByteArray.empty ((init ++ [cur]).map B) (init.length : Int) = B cur := by
        rw [hm]
        have := rd_last ByteArray.empty (init.map B) (B cur)
        rw [List.length_map] at this
        exact this
      have hset : ((init ++ [cur]).map B).set init.length (B (cur ++ [l[i]])) = (init ++ [cur ++ [l[i]]]).map B := by
        rw [hm]
        have := set_last (init.map B) (B cur) (B (cur ++ [l[i]]))
        rw [List.length_map] at this
        rw [this]; simp
      have hex : (B l).extract i (i + 1) = B [l[i]] := by
        rw [ba_cut, Nat.add_sub_cancel_left, List.drop_eq_getElem_cons hil, List.take_succ_cons, List.take_zero]
      rw [haversackref07_Parts.l0, ba_size, if_pos (by omega), if_pos (by omega), btn, if_neg he, hx, show (init.length : Int) + 1 - 1 = init.length by omega, w64 (x := (init.length : Int)) (by omega), if_pos (by omega), if_pos (by omega), hw, if_pos (by omega), if_pos (by omega), hrd, ba_size, if_pos (by omega), Int.toNat_natCast, Int.toNat_natCast, Int.toNat_natCast, hex, ba_app, hset]
theorem rparts_f (l : List UInt8) (hl : l.length ≤ 1000000) : Ev (fun k => haversackref07_Parts.f k (B l)) ((partsA [] l).map B) := rparts_l0 l hl l.length 0 (by omega) [] [] (by simp) (by simp)

/-! ### parts joined -/
abbrev joinL (xs : List (List UInt8)) : List UInt8 := Lib.join xs [47]
theorem joinL_cons (x : List UInt8) (r : List (List UInt8)) (hr : r ≠ []) : joinL (x :: r) = x ++ 47 :: joinL r := by
  cases r with
  | nil => exact absurd rfl hr
  | cons y r => unfold joinL; rw [Lib.join_cons, Lib.join_cons]; simp [Lib.joinTail]
theorem joinL_one (x : List UInt8) : joinL [x] = x := Lib.join_one x [47]
theorem join_parts : ∀ (s cur : List UInt8), joinL (partsA cur s) = cur ++ s
  | [], cur => by rw [partsA, joinL_one]; simp
  | c :: s, cur => by
    rw [partsA]
    split
    · rename_i h
      rw [joinL_cons _ _ (partsA_ne _ _), join_parts s []]
      simp [h]
    · rw [join_parts s]
      simp
theorem joinL_snoc (xs : List (List UInt8)) (x : List UInt8) (hx : xs ≠ []) : joinL (xs ++ [x]) = joinL xs ++ 47 :: x := by
  induction xs with
  | nil => exact absurd rfl hx
  | cons y r ih =>
    by_cases h : r = []
    · subst h
      rw [List.singleton_append, joinL_cons _ _ (by simp), joinL_one, joinL_one]
    · rw [List.cons_append, joinL_cons _ _ (by simp), ih h, joinL_cons _ _ h]
      simp
theorem joinL_last (xs : List (List UInt8)) (x : List UInt8) (c : UInt8) : joinL (xs ++ [x ++ [c]]) = joinL (xs ++ [x]) ++ [c] := by
  by_cases h : xs = []
  · subst h; rw [List.nil_append, List.nil_append, joinL_one, joinL_one]
  · rw [joinL_snoc _ _ h, joinL_snoc _ _ h]; simp
theorem joinL_take (xs : List (List UInt8)) (j : Nat) : (joinL (xs.take j)).length ≤ (joinL xs).length := by
  induction xs generalizing j with
  | nil => simp
  | cons x r ih =>
    cases j with
    | zero => simp [joinL, Lib.join_nil]
    | succ j =>
      rw [List.take_succ_cons]
      by_cases h : r = []
      · subst h; simp
      · rw [joinL_cons x r h]
        by_cases h2 : r.take j = []
        · rw [h2, joinL_one]; simp
        · rw [joinL_cons x _ h2]
          have := ih j
          simp; omega
theorem names_join_f (xs : List (List UInt8)) (h : (joinL xs).length ≤ 1000000000) (h2 : xs.length ≤ 1000000000) : names_Join.f (xs.map B) = some (B (joinL xs)) := by
  unfold names_Join.f
  have e : (xs.map B).map (·.data.toList) = xs := by simp [Function.comp_def]
  rw [e, List.length_map, if_pos ⟨Nat.le_trans h (by decide), Nat.le_trans h2 (by decide)⟩]
theorem rjoin_l0 (xs : List (List UInt8)) (hx : xs.length ≤ 1000000000) : ∀ d i : Nat, i + d = xs.length → ∀ acc : List UInt8, acc = joinL (xs.take i) → (∀ j, j ≤ xs.length → (joinL (xs.take j)).length ≤ 1000000000) →
    Ev (fun k => haversackref07_Join.l0 k (xs.map B) (B acc) (i : Int)) (B (joinL xs)) := by
  intro d
  induction d with
  | zero =>
    intro i hi acc hacc hb
    refine Ev.now fun k => ?_
    rw [haversackref07_Join.l0, List.length_map, if_neg (by omega), hacc, List.take_of_length_le (by omega)]
  | succ d ih =>
    intro i hi acc hacc hb
    have hil : i < xs.length := by omega
    have hw : wrap64 ((i : Int) + 1) = ((i + 1 : Nat) : Int) := by rw [w64 (by omega)]; omega
    have hts : xs.take (i + 1) = xs.take i ++ [xs[i]] := List.take_succ_eq_append_getElem hil
    have hrd : rdOf ByteArray.empty (xs.map B) (i : Int) = B xs[i] := by rw [rd_at _ _ _ (by simpa using hil)]; simp
    have hb1 := hb (i + 1) (by omega)
    by_cases h0 : i = 0
    · subst h0
      rw [List.take_zero] at hacc
      have e : joinL (xs.take 1) = xs[0] := by
        rw [hts, List.take_zero, List.nil_append, joinL_one]
      refine Ev.go (fun k => ?_) (ih 1 (by omega) xs[0] e.symm hb)
      rw [e] at hb1
      have ha0 : acc = [] := hacc
      subst ha0
      rw [haversackref07_Join.l0, List.length_map, if_pos (by omega), if_neg (by omega), if_pos (by omega), hrd, ba_size, ba_size, if_pos (by simp; omega), hw, ba_app]
      rfl
    · have hne : xs.take i ≠ [] := fun e => by
        have h9 : (xs.take i).length = 0 := by rw [e]; rfl
        rw [List.length_take] at h9; omega
      have e : joinL (xs.take (i + 1)) = acc ++ 47 :: xs[i] := by rw [hts, joinL_snoc _ _ hne, hacc]
      refine Ev.go (fun k => ?_) (ih (i + 1) (by omega) (acc ++ 47 :: xs[i]) e.symm hb)
      rw [e] at hb1
      simp only [List.length_append, List.length_cons] at hb1
      rw [haversackref07_Join.l0, List.length_map, if_pos (by omega), if_pos (by omega), ba_size, if_pos (by omega), if_pos (by omega), hrd, ba_size, if_pos (by omega), hw, show (⟨#[47]⟩ : ByteArray) = B [47] from rfl, ba_app, ba_app]
      simp
theorem rjoin_f (xs : List (List UInt8)) (hx : xs.length ≤ 1000000000) (h : (joinL xs).length ≤ 1000000000) : Ev (fun k => haversackref07_Join.f k (xs.map B)) (B (joinL xs)) :=
  rjoin_l0 xs hx xs.length 0 (by omega) [] rfl (fun j _ => Nat.le_trans (joinL_take xs j) h)

/-! ### the names that one is under -/
def ups (pre : List UInt8) : List UInt8 → List (List UInt8)
  | [] => []
  | c :: s => if c = 47 then pre :: ups (pre ++ [c]) s else ups (pre ++ [c]) s
theorem ups_len : ∀ (s pre cur : List UInt8), (ups pre s).length + 1 = (partsA cur s).length
  | [], pre, cur => rfl
  | c :: s, pre, cur => by
    rw [ups, partsA]
    split
    · rw [List.length_cons, List.length_cons, ups_len s _ []]
    · exact ups_len s _ _
theorem ups_under : ∀ (s pre x : List UInt8), x ∈ ups pre s → ∃ t, pre ++ s = x ++ 47 :: t
  | [], pre, x, h => by cases h
  | c :: s, pre, x, h => by
    rw [ups] at h
    split at h
    · rename_i hc
      rcases List.mem_cons.1 h with rfl | h
      · exact ⟨s, by rw [hc]⟩
      · obtain ⟨t, ht⟩ := ups_under s _ x h
        exact ⟨t, by rw [← ht]; simp⟩
    · obtain ⟨t, ht⟩ := ups_under s _ x h
      exact ⟨t, by rw [← ht]; simp⟩
theorem names_up_l0 (l : List UInt8) (hl : l.length ≤ 1000000) : ∀ d i : Nat, i + d = l.length → ∀ acc : List (List UInt8), acc.length ≤ i →
    Ev (fun k => names_Up.l0 k (B l) (acc.map B) (l.length : Int) (i : Int)) ((acc ++ ups (l.take i) (l.drop i)).map B) := by
  intro d
  induction d with
  | zero =>
    intro i hi acc h1
    refine Ev.now fun k => ?_
    rw [names_Up.l0, if_neg (by omega), List.drop_eq_nil_iff.2 (by omega)]
    simp [ups]
  | succ d ih =>
    intro i hi acc h1
    have hil : i < l.length := by omega
    have hw : wrap64 ((i : Int) + 1) = ((i + 1 : Nat) : Int) := by rw [w64 (by omega)]; omega
    have hts : l.take (i + 1) = l.take i ++ [l[i]] := List.take_succ_eq_append_getElem hil
    rw [List.drop_eq_getElem_cons hil]
    by_cases e : l[i] = 47
    · have R : acc ++ ups (l.take i) (l[i] :: l.drop (i + 1)) = (acc ++ [l.take i]) ++ ups (l.take (i + 1)) (l.drop (i + 1)) := by rw [ups, if_pos e, hts]; simp
      rw [R]
      refine Ev.go (fun k => ?_) (ih (i + 1) (by omega) (acc ++ [l.take i]) (by simp; omega))
      have he : (((l.getD i 0).toNat : Int) = 47) := by rw [getD_at l i hil, e]; rfl
      rw [names_Up.l0, if_pos (by omega), if_pos (by omega), ba_size, if_pos (by omega), btn, if_pos he, if_pos (by omega), List.length_map, if_pos (by omega), hw, Int.toNat_natCast, ba_cut]
      simp
    · have R : acc ++ ups (l.take i) (l[i] :: l.drop (i + 1)) = acc ++ ups (l.take (i + 1)) (l.drop (i + 1)) := by rw [ups, if_neg e, hts]
      rw [R]
      refine Ev.go (fun k => ?_) (ih (i + 1) (by omega) acc (by omega))
      have he : ¬ (((l.getD i 0).toNat : Int) = 47) := by rw [getD_at l i hil]; exact fun h => e ((u8i l[i] 47).mp h)
      rw [names_Up.l0, if_pos (by omega), if_pos (by omega), ba_size, if_pos (by omega), btn, if_neg he, hw]
theorem names_up_f (l : List UInt8) (hl : l.length ≤ 1000000) : Ev (fun k => names_Up.f k (B l)) ((ups [] l).map B) := by
  refine Ev.same (fun k => ?_) (names_up_l0 l hl l.length 0 (by omega) [] (by simp))
  unfold names_Up.f
  rw [ba_size]; rfl
theorem rup_l0 (xs : List (List UInt8)) (hx : xs.length ≤ 1000000) (hb : (joinL xs).length ≤ 1000000000) : ∀ d i : Nat, i + d = xs.length → ∀ acc : List (List UInt8), acc.length ≤ i →
    Ev (fun k => haversackref07_Up.l0 k (xs.map B) (acc.map B) (i : Int)) ((acc ++ (List.range' i d).map (fun j => joinL (xs.take j))).map B) := by
  intro d
  induction d with
  | zero =>
    intro i hi acc h1
    refine Ev.now fun k => ?_
    rw [haversackref07_Up.l0, List.length_map, if_neg (by omega)]
    simp
  | succ d ih =>
    intro i hi acc h1
    have hw : wrap64 ((i : Int) + 1) = ((i + 1 : Nat) : Int) := by rw [w64 (by omega)]; omega
    rw [List.range'_succ, List.map_cons]
    apply Ev.go
    · intro k; rw [haversackref07_Up.l0, List.length_map, if_pos (by omega), if_pos (by omega), if_pos (by omega), Int.toNat_natCast, ← List.map_take, List.length_map, hw]
    · simp only [if_pos (show acc.length < 8796093022208 by omega)]
      refine Ev.bd (rjoin_f (xs.take i) (by rw [List.length_take]; omega) (Nat.le_trans (joinL_take xs i) hb)) ?_
      have := ih (i + 1) (by omega) (acc ++ [joinL (xs.take i)]) (by simp; omega)
      simpa using this
theorem ups_range : ∀ (s cur : List UInt8) (init : List (List UInt8)), (List.range' (init.length + 1) ((partsA cur s).length - 1)).map (fun j => joinL ((init ++ partsA cur s).take j)) = ups (joinL (init ++ [cur])) s
  | [], cur, init => by simp [partsA, ups]
  | c :: s, cur, init => by
    rw [partsA, ups]
    split
    · rename_i hc
      have hlen : (partsA [] s).length ≠ 0 := fun e => partsA_ne s [] (List.eq_nil_of_length_eq_zero e)
      obtain ⟨m, hm⟩ : ∃ m, (partsA [] s).length = m + 1 := ⟨(partsA [] s).length - 1, by omega⟩
      have h := ups_range s [] (init ++ [cur])
      rw [hm, Nat.add_sub_cancel, joinL_snoc _ _ (by simp), List.append_assoc, List.singleton_append, List.length_append, List.length_singleton] at h
      rw [List.length_cons, hm, Nat.add_sub_cancel, List.range'_succ, List.map_cons, hc, h]
      congr 1
      rw [List.take_append, List.take_of_length_le (by omega), show init.length + 1 - init.length = 1 by omega, List.take_succ_cons, List.take_zero]
    · have h := ups_range s (cur ++ [c]) init
      rw [h, joinL_last]
theorem rup_f (l : List UInt8) (hl : l.length ≤ 900000) : Ev (fun k => haversackref07_Up.f k (B l)) ((ups [] l).map B) := by
  have hp := partsA_len l []
  have hj : joinL (partsA [] l) = l := join_parts l []
  have hne : (partsA [] l).length ≠ 0 := fun e => partsA_ne l [] (List.eq_nil_of_length_eq_zero e)
  have h := rup_l0 (partsA [] l) (by omega) (by rw [hj]; omega) ((partsA [] l).length - 1) 1 (by omega) [] (by simp)
  have hu := ups_range l [] []
  rw [List.nil_append] at hu
  simp only [List.nil_append, List.length_nil, Nat.zero_add] at hu h
  rw [hu, joinL_one] at h
  exact Ev.bd (rparts_f l (by omega)) h

/-! ### lists that are the same -/
theorem same_l0 (xs : List ByteArray) (hx : xs.length ≤ 1000000000) : ∀ d i : Nat, i + d = xs.length → Ev (fun k => haversackref07_Same.l0 k xs xs (i : Int)) true := by
  intro d
  induction d with
  | zero =>
    intro i hi
    refine Ev.now fun k => ?_
    rw [haversackref07_Same.l0, if_neg (by omega)]
  | succ d ih =>
    intro i hi
    refine Ev.go (fun k => ?_) (ih (i + 1) (by omega))
    rw [haversackref07_Same.l0, if_pos (by omega), if_pos (by omega), if_pos (by omega), if_pos rfl, show wrap64 ((i : Int) + 1) = ((i + 1 : Nat) : Int) by rw [w64 (by omega)]; omega]
theorem same_f (xs : List ByteArray) (hx : xs.length ≤ 1000000000) : Ev (fun k => haversackref07_Same.f k xs xs) true := by
  refine Ev.same (fun k => ?_) (same_l0 xs hx xs.length 0 (by omega))
  unfold haversackref07_Same.f
  rw [if_pos rfl]; rfl

/-! ### under, moved: the document's -/
theorem runder_f (l m : List UInt8) : haversackref07_Under.f (B l) (B m) = some (isUnder l m) := by
  unfold haversackref07_Under.f isUnder
  rw [ba_size, ba_size]
  by_cases h : m.length < l.length
  · rw [if_pos (by omega), if_pos (by omega), if_pos (by omega), Int.toNat_natCast, ba_cut, ba_toList, ba_toList, Nat.sub_zero, List.drop_zero, btn, getD_at l _ h]
    have hts : l.take (m.length + 1) = l.take m.length ++ [l[m.length]] := List.take_succ_eq_append_getElem h
    have hb : ((l[m.length].toNat : Int) == 47) = (l[m.length] == 47) := by
      rw [Bool.eq_iff_iff, beq_iff_eq, beq_iff_eq]; exact Eq.to_iff (u8i l[m.length] 47)
    by_cases e : l.take m.length = m
    · rw [if_pos e, if_pos (by omega), hb]
      congr 1
      rw [Bool.eq_iff_iff, List.isPrefixOf_iff_prefix, List.prefix_iff_eq_take, List.length_append, List.length_singleton, hts, e, beq_iff_eq]
      constructor
      · intro h; rw [h]
      · intro h; have := List.append_cancel_left h; exact (List.cons.inj this).1.symm
    · rw [if_neg e]
      congr 1
      symm
      rw [← Bool.not_eq_true, List.isPrefixOf_iff_prefix, List.prefix_iff_eq_take, List.length_append, List.length_singleton, hts]
      intro h2
      exact e ((List.append_inj' h2 rfl).1.symm)
  · rw [if_neg (by omega)]
    congr 1
    symm
    rw [← Bool.not_eq_true, List.isPrefixOf_iff_prefix]
    intro h2
    have := h2.length_le
    simp at this
    omega
theorem rmoved_f (l m t : List UInt8) (h1 : l.length ≤ 1000000000) (h2 : m.length ≤ 1000000000) (h3 : t.length ≤ 1000000000) :
    haversackref07_Moved.f (B l) (B m) (B t) = some (B (movedL l m t).1, (movedL l m t).2) := by
  unfold haversackref07_Moved.f movedL
  rw [runder_f, ba_toList, ba_toList, ba_size, ba_size, ba_size]
  by_cases e : l = m
  · rw [if_pos e, if_pos e]
  · rw [if_neg e, if_neg e]
    simp only [Option.bind_some]
    by_cases u : isUnder l m = true
    · obtain ⟨s, hs⟩ := under_le u
      have hl : m.length ≤ l.length := by rw [hs]; simp
      rw [if_pos u, if_pos u, if_pos (by omega), if_pos (by omega), Int.toNat_natCast, if_pos (by omega), ba_drop, ba_app]
    · rw [if_neg u, if_neg u]
end Go.Proofs.YtnkibbfpmhgeaaaDoor.Pure
