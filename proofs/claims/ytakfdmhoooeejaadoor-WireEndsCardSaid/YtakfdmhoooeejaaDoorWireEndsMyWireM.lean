/- YtakfdmhoooeejaaDoorMyWireM, as far as WireEnds needs it (prune.py). -/
import Derived.Test.YtakfdmhoooeejaaDoorWireEndsMyWireL
namespace Go.Proofs.YtakfdmhoooeejaaDoor.PP
open Go.RowKit Go.Proofs.YtakfdmhoooeejaaDoorW.PrintWords Go.Proofs.YtakfdmhoooeejaaDoorW.PrintLast Go.Proofs.YtakfdmhoooeejaaDoorW.PrintMore
open Go.Proofs.YtakfdmhoooeejaaDoor.My
set_option linter.unusedVariables false
set_option linter.unusedSimpArgs false
theorem rdB (xs : List ByteArray) (i : Nat) (h : i < xs.length) : rdOf ByteArray.empty xs (i : Int) = xs[i] := by
  unfold rdOf
  rw [Int.toNat_natCast, List.getD_eq_getElem?_getD, List.getElem?_eq_getElem h, Option.getD_some]
theorem dropB (xs : List ByteArray) (i : Nat) (h : i < xs.length) : xs.drop i = xs[i] :: xs.drop (i + 1) := List.drop_eq_getElem_cons h
theorem szs_cons (x : ByteArray) (xs : List ByteArray) : szs (x :: xs) = x.size + szs xs := by simp [szs]
theorem szs_nil : szs [] = 0 := rfl
theorem bt_str (l : List UInt8) (i : Nat) (h : i < l.length) : bt (str l) (i : Int) = ((l.getD i 0).toNat : Int) := by
  unfold bt
  simp only [Int.toNat_natCast]
  rw [dif_pos (by simpa [ByteArray.size, str] using h), List.getD_eq_getElem?_getD, List.getElem?_eq_getElem h]
  rfl
def isDig (c : UInt8) : Prop := 48 ≤ c.toNat ∧ c.toNat ≤ 57
theorem isDig_digs {c : UInt8} (h : c ∈ digs) : isDig c := by
  simp only [digs, List.mem_cons, List.mem_nil_iff, or_false] at h
  rcases h with rfl | rfl | rfl | rfl | rfl | rfl | rfl | rfl | rfl | rfl <;> exact ⟨by decide, by decide⟩
theorem mark_l1 (l : List UInt8) (K : Nat) (on : Bool) (i0 : Int) (hK : K ≤ l.length) (hl : l.length ≤ 1000000000000000) : ∀ (m j : Nat) (n : Int), j + m = K → ∃ v, Ev (fun k => haversackref13_Mark.l1 k (str l) K on i0 n j) (wrap64 (i0 - 1), v, on)
  | 0, j, n, h => ⟨n, Ev.go (fun k => by rw [haversackref13_Mark.l1, if_neg (by omega)]) (Ev.ret _)⟩
  | m + 1, j, n, h => by
    obtain ⟨v, hv⟩ := mark_l1 l K on i0 hK hl m (j + 1) (wrap64 ((wrap64 ((wrap64 (10 * n)) + (wrap64 (bt (str l) j)))) - 48)) (by omega)
    refine ⟨v, Ev.go (fun k => ?_) hv⟩
    rw [haversackref13_Mark.l1, if_pos (by omega), if_pos (by omega), if_pos (by rw [str_size]; omega), w64 (show -9223372036854775808 ≤ (j : Int) + 1 ∧ (j : Int) + 1 ≤ 9223372036854775807 by omega)]
    rfl
theorem mark_j5t (l : List UInt8) (K : Nat) (on : Bool) (j : Int) : Ev (fun k => haversackref13_Mark.j5 k (str l) K on j true) (-1, 0, false) :=
  Ev.go (fun k => by rw [haversackref13_Mark.j5, if_pos rfl]) (Ev.ret _)
theorem mark_j4 (l : List UInt8) (K : Nat) (on : Bool) (hK : K ≤ l.length) (hl : l.length ≤ 1000000000000000) (j : Nat) (hj : j ≤ K) : ∃ r, Ev (fun k => haversackref13_Mark.j4 k (str l) K on j) r ∧ (r.1 < 0 → (j = K ∨ 6 < K - j ∨ j = 0 ∨ l.getD (j - 1) 0 ≠ 123)) := by
  by_cases h1 : (j : Int) = (K : Int)
  · exact ⟨_, Ev.go (fun k => by rw [haversackref13_Mark.j4, if_pos h1]) (mark_j5t l K on j), fun _ => .inl (by omega)⟩
  have hw : wrap64 ((K : Int) - (j : Int)) = (K : Int) - (j : Int) := w64 (by omega)
  by_cases h2 : (K : Int) - (j : Int) > 6
  · exact ⟨_, Ev.go (fun k => by rw [haversackref13_Mark.j4, if_neg h1, hw, if_pos h2]) (mark_j5t l K on j), fun _ => .inr (.inl (by omega))⟩
  by_cases h3 : (j : Int) = 0
  · exact ⟨_, Ev.go (fun k => by rw [haversackref13_Mark.j4, if_neg h1, hw, if_neg h2, if_pos h3]) (mark_j5t l K on j), fun _ => .inr (.inr (.inl (by omega)))⟩
  obtain ⟨i, rfl⟩ : ∃ i, j = i + 1 := ⟨j - 1, by omega⟩
  have hw1 : wrap64 (((i + 1 : Nat) : Int) - 1) = (i : Int) := by rw [w64 (by omega)]; omega
  have hb := bt_str l i (by omega)
  have hgo : ∀ k, haversackref13_Mark.j4 (k + 1) (str l) K on ((i + 1 : Nat) : Int) = haversackref13_Mark.j5 k (str l) K on ((i + 1 : Nat) : Int) (((l.getD i 0).toNat : Int) != 123) := fun k => by
    rw [haversackref13_Mark.j4, if_neg h1, hw, if_neg h2, if_neg h3, hw1, if_pos (by omega), if_pos (by rw [str_size]; omega), hb]
  by_cases h4 : l.getD i 0 = 123
  · have hd : (((l.getD i 0).toNat : Int) != 123) = false := by rw [h4]; rfl
    obtain ⟨v, hv⟩ := mark_l1 l K on ((i + 1 : Nat) : Int) hK hl (K - (i + 1)) (i + 1) 0 (by omega)
    refine ⟨_, Ev.go hgo (Ev.go (fun k => ?_) hv), fun h => ?_⟩
    · rw [hd, haversackref13_Mark.j5, if_neg (by decide)]
    · rw [hw1] at h
      simp only at h
      omega
  · have hd : (((l.getD i 0).toNat : Int) != 123) = true := by
      simp only [bne_iff_ne, ne_eq]
      intro e
      exact h4 (UInt8.toNat_inj.1 (show (l.getD i 0).toNat = (123 : UInt8).toNat by have : (123 : UInt8).toNat = 123 := rfl; omega))
    refine ⟨(-1, 0, false), Ev.go hgo ?_, fun _ => .inr (.inr (.inr h4))⟩
    rw [hd]
    exact mark_j5t l K on _
theorem mark_l0 (l : List UInt8) (K : Nat) (on : Bool) (hK : K ≤ l.length) (hl : l.length ≤ 1000000000000000) : ∀ (i : Nat), i ≤ K → (∀ m, i ≤ m → m < K → isDig (l.getD m 0)) →
    ∃ r, Ev (fun k => haversackref13_Mark.l0 k (str l) K on i) r ∧ (r.1 < 0 → ∃ j, j ≤ K ∧ (∀ m, j ≤ m → m < K → isDig (l.getD m 0)) ∧ (j = 0 ∨ ¬ isDig (l.getD (j - 1) 0)) ∧ (j = K ∨ 6 < K - j ∨ j = 0 ∨ l.getD (j - 1) 0 ≠ 123))
  | 0, hi, hd => by
    obtain ⟨r, hr, hp⟩ := mark_j4 l K on hK hl 0 hi
    refine ⟨r, Ev.go (fun k => ?_) hr, fun h => ⟨0, hi, hd, .inl rfl, hp h⟩⟩
    rw [haversackref13_Mark.l0, if_neg (by omega)]
  | i + 1, hi, hd => by
    have hw1 : wrap64 (((i + 1 : Nat) : Int) - 1) = (i : Int) := by rw [w64 (by omega)]; omega
    have hb := bt_str l i (by omega)
    by_cases h1 : isDig (l.getD i 0)
    · obtain ⟨r, hr, hp⟩ := mark_l0 l K on hK hl i (by omega) (fun m h2 h3 => by
        by_cases he : m = i
        · rw [he]; exact h1
        · exact hd m (by omega) h3)
      refine ⟨r, Ev.go (fun k => ?_) hr, hp⟩
      rw [haversackref13_Mark.l0, if_pos (by omega), hw1, if_pos (by omega), if_pos (by rw [str_size]; omega), hb, if_pos (by have := h1.1; omega), if_pos (by have := h1.2; omega)]
    · obtain ⟨r, hr, hp⟩ := mark_j4 l K on hK hl (i + 1) hi
      refine ⟨r, Ev.go (fun k => ?_) hr, fun h => ⟨i + 1, hi, hd, .inr h1, hp h⟩⟩
      rw [haversackref13_Mark.l0, if_pos (by omega), hw1, if_pos (by omega), if_pos (by rw [str_size]; omega), hb]
      by_cases h2 : ((l.getD i 0).toNat : Int) ≥ 48
      · rw [if_pos h2, if_neg (fun h3 => h1 ⟨by omega, by omega⟩)]
      · rw [if_neg h2]
theorem hasS_cut {l : List UInt8} {c : UInt8} (h : Lib.hasSuffix l [c] = true) : ∃ p, l = p ++ [c] := by
  obtain ⟨p, hp⟩ := List.isSuffixOf_iff_suffix.1 (show List.isSuffixOf [c] l = true from h)
  exact ⟨p, hp.symm⟩
theorem markS_inv {l t : List UInt8} {n : Int} {on : Bool} (h : markS l = some (t, n, on)) : ∃ d, l = t ++ 123 :: (d ++ ((if on = true then [43] else []) ++ [125])) ∧ d ≠ [] ∧ d.length ≤ 6 ∧ ∀ c ∈ d, c ∈ digs := by
  unfold markS at h
  by_cases h1 : Lib.hasSuffix l [125] = true
  · rw [if_pos h1] at h
    by_cases h2 : Lib.lastIndexByte (str l) 123 < 0
    · rw [if_pos h2] at h; cases h
    rw [if_neg h2] at h
    obtain ⟨p, hp⟩ := hasS_cut h1
    by_cases h3 : Lib.trimSuffix (markD l) [43] = [] ∨ 6 < (Lib.trimSuffix (markD l) [43]).length ∨ Lib.trimS (Lib.trimSuffix (markD l) [43]) digs ≠ []
    · rw [if_pos h3] at h; cases h
    rw [if_neg h3] at h
    simp only [not_or, Decidable.not_not] at h3
    obtain ⟨a1, a2, a3⟩ := h3
    injection h with h
    injection h with e1 h
    injection h with e2 e3
    have hlt := last_lt l h1
    rcases Lib.lastIndexByte_spec (str l) 123 with ⟨e, _⟩ | ⟨i, hi, e, hc, _⟩
    · omega
    rw [e] at e1 hlt
    rw [Int.toNat_natCast] at e1
    have hpl : l.length = p.length + 1 := by rw [hp]; simp
    have hci : p.getD i 0 = 123 := by
      have h4 : (str l).data[i]! = l.getD i 0 := by
        show l.toArray[i]! = _
        rw [getElem!_pos _ i (by simp; omega)]
        simp [List.getD_eq_getElem?_getD, List.getElem?_eq_getElem (show i < l.length by omega)]
      rw [h4] at hc
      have h5 : l.getD i 0 = p.getD i 0 := by
        rw [hp, List.getD_eq_getElem?_getD, List.getD_eq_getElem?_getD, List.getElem?_append_left (by omega)]
      rw [← h5]
      exact UInt8.toNat_inj.1 (show (l.getD i 0).toNat = (123 : UInt8).toNat by have : (123 : UInt8).toNat = 123 := rfl; omega)
    have hD : markD l = p.drop (i + 1) := by
      unfold markD
      rw [e, Int.toNat_natCast, hpl, Nat.add_sub_cancel, hp, List.take_left]
    have hps : p = p.take i ++ 123 :: markD l := by
      rw [hD]
      conv => lhs; rw [← List.take_append_drop i p]
      congr 1
      rw [List.drop_eq_getElem_cons (by omega)]
      congr 1
      rw [← hci, List.getD_eq_getElem?_getD, List.getElem?_eq_getElem (show i < p.length by omega), Option.getD_some]
    have ht : t = p.take i := by
      rw [← e1, hp, List.take_append_of_le_length (by omega)]
    refine ⟨Lib.trimSuffix (markD l) [43], ?_, a1, by omega, trim_none _ _ a3⟩
    rw [← e3]
    have hDD : markD l = Lib.trimSuffix (markD l) [43] ++ (if Lib.hasSuffix (markD l) [43] = true then [43] else []) := by
      by_cases h6 : Lib.hasSuffix (markD l) [43] = true
      · obtain ⟨q, hq⟩ := hasS_cut h6
        rw [if_pos h6, hq, trimS_last]
      · rw [if_neg h6]
        unfold Lib.trimSuffix
        rw [if_neg h6]
        simp
    conv => lhs; rw [hp, hps]
    rw [ht]
    rw [List.append_assoc, List.cons_append, ← List.append_assoc _ _ [125], ← hDD]
  · rw [if_neg h1] at h; cases h
theorem mark_ev (l : List UInt8) (hl : l.length ≤ 1000000000000000) : ∃ r, Ev (fun k => haversackref13_Mark.f k (str l)) r ∧ (r.1 < 0 → markS l = none) := by
  rcases Nat.eq_zero_or_pos l.length with h0 | h0
  · have hl0 : l = [] := List.eq_nil_of_length_eq_zero h0
    subst hl0
    refine ⟨(-1, 0, false), Ev.same (fun k => by rw [haversackref13_Mark.f, if_pos (by decide +kernel)]) (Ev.go (fun k => by rw [haversackref13_Mark.j0, if_pos rfl]) (Ev.ret _)), fun _ => by decide⟩
  obtain ⟨m, hm⟩ : ∃ m, l.length = m + 1 := ⟨l.length - 1, by omega⟩
  have hw : wrap64 (((str l).size : Int) - 1) = (m : Int) := by rw [str_size, w64 (by omega)]; omega
  have hb := bt_str l m (by omega)
  have hgo : ∀ k, haversackref13_Mark.f k (str l) = haversackref13_Mark.j0 k (str l) (m : Int) (((l.getD m 0).toNat : Int) != 125) := fun k => by
    rw [haversackref13_Mark.f, hw, if_neg (by omega), if_pos (by omega), if_pos (by rw [str_size]; omega), hb]
  obtain ⟨p, c, hpc⟩ : ∃ p c, l = p ++ [c] := ⟨l.dropLast, l.getLast (by intro h; rw [h] at hm; simp at hm), (List.dropLast_concat_getLast _).symm⟩
  have hpm : p.length = m := by rw [hpc] at hm; simpa using hm
  have hcm : l.getD m 0 = c := by rw [hpc, ← hpm]; simp [List.getD_eq_getElem?_getD]
  rw [hcm] at hgo
  by_cases h125 : c = 125
  · subst h125
    rw [show (((125 : UInt8).toNat : Int) != 125) = false from rfl] at hgo
    have key : ∀ (K : Nat) (on : Bool), K ≤ m → (∀ (t : List UInt8) n' on', markS l = some (t, n', on') → ∀ d, l = t ++ 123 :: (d ++ ((if on' = true then [43] else []) ++ [125])) → d ≠ [] → (∀ c ∈ d, c ∈ digs) → K = t.length + 1 + d.length) →
        ∃ r, Ev (fun k => haversackref13_Mark.l0 k (str l) K on K) r ∧ (r.1 < 0 → markS l = none) := by
      intro K on hK hkey
      obtain ⟨r, hr, hp⟩ := mark_l0 l K on (by omega) hl K (Nat.le_refl _) (fun m h1 h2 => by omega)
      refine ⟨r, hr, fun h => ?_⟩
      obtain ⟨j, j1, j2, j3, j4⟩ := hp h
      cases hms : markS l with
      | none => rfl
      | some v =>
        exfalso
        obtain ⟨t, n', on'⟩ := v
        obtain ⟨d, d1, d2, d3, d4⟩ := markS_inv hms
        have hKe := hkey t n' on' hms d d1 d2 d4
        have hdl : 0 < d.length := List.length_pos_iff.2 d2
        have g1 : l.getD t.length 0 = 123 := by rw [d1]; simp [List.getD_eq_getElem?_getD]
        have g2 : ∀ q, t.length + 1 ≤ q → q < K → isDig (l.getD q 0) := by
          intro q q1 q2
          have e1 : l.getD q 0 = d.getD (q - (t.length + 1)) 0 := by
            rw [d1, List.getD_eq_getElem?_getD, List.getD_eq_getElem?_getD, List.getElem?_append_right (by omega), show q - t.length = (q - (t.length + 1)) + 1 by omega, List.getElem?_cons_succ, List.getElem?_append_left (by omega)]
          rw [e1, List.getD_eq_getElem?_getD, List.getElem?_eq_getElem (by omega), Option.getD_some]
          exact isDig_digs (d4 _ (List.getElem_mem _))
        have hj : j = t.length + 1 := by
          rcases Nat.lt_trichotomy j (t.length + 1) with hlt | he | hgt
          · exfalso
            have := j2 t.length (by omega) (by omega)
            rw [g1] at this
            exact absurd this.2 (by decide)
          · exact he
          · exfalso
            rcases j3 with h0' | hnd
            · omega
            · exact hnd (g2 (j - 1) (by omega) (by omega))
        subst hj
        rw [Nat.add_sub_cancel] at j4
        rcases j4 with h | h | h | h
        · omega
        · omega
        · omega
        · exact h g1
    have hlast : ∀ (t : List UInt8) on' (d : List UInt8), l = t ++ 123 :: (d ++ ((if on' = true then [43] else []) ++ [125])) → d ≠ [] → (∀ c ∈ d, c ∈ digs) → 0 < m ∧ ((on' = true ∧ l.getD (m - 1) 0 = 43 ∧ m - 1 = t.length + 1 + d.length) ∨ (on' = false ∧ l.getD (m - 1) 0 ≠ 43 ∧ m = t.length + 1 + d.length)) := by
      intro t on' d hd1 hd2 hd3
      have hdl : 0 < d.length := List.length_pos_iff.2 hd2
      cases on' with
      | true =>
        have hlen : m = t.length + 1 + d.length + 1 := by
          have h := hm
          rw [hd1] at h
          simp at h
          omega
        refine ⟨by omega, .inl ⟨rfl, ?_, by omega⟩⟩
        rw [hd1, List.getD_eq_getElem?_getD, List.getElem?_append_right (by omega), show m - 1 - t.length = d.length + 1 by omega, List.getElem?_cons_succ, List.getElem?_append_right (by omega)]
        simp
      | false =>
        have hlen : m = t.length + 1 + d.length := by
          have h := hm
          rw [hd1] at h
          simp at h
          omega
        refine ⟨by omega, .inr ⟨rfl, ?_, hlen⟩⟩
        rw [hd1, List.getD_eq_getElem?_getD, List.getElem?_append_right (by omega), show m - 1 - t.length = (d.length - 1) + 1 by omega, List.getElem?_cons_succ, List.getElem?_append_left (by omega), List.getElem?_eq_getElem (by omega), Option.getD_some]
        exact (dig_ne (hd3 _ (List.getElem_mem _))).2.1
    by_cases hm0 : (m : Int) > 0
    · obtain ⟨q, rfl⟩ : ∃ q, m = q + 1 := ⟨m - 1, by omega⟩
      have hw1 : wrap64 (((q + 1 : Nat) : Int) - 1) = (q : Int) := by rw [w64 (by omega)]; omega
      have hb1 := bt_str l q (by omega)
      have hgo2 : ∀ k, haversackref13_Mark.j0 (k + 1) (str l) ((q + 1 : Nat) : Int) false = haversackref13_Mark.j1 k (str l) ((q + 1 : Nat) : Int) (((l.getD q 0).toNat : Int) == 43) := fun k => by
        rw [haversackref13_Mark.j0, if_neg (by decide), if_pos hm0, hw1, if_pos (by omega), if_pos (by rw [str_size]; omega), hb1]
      by_cases h43 : l.getD q 0 = 43
      · have hd : (((l.getD q 0).toNat : Int) == 43) = true := by rw [h43]; rfl
        obtain ⟨r, hr, hp⟩ := key q true (by omega) (fun t n' on' _ d d1 d2 d4 => by
          obtain ⟨_, h | h⟩ := hlast t on' d d1 d2 d4
          · have := h.2.2; omega
          · exact absurd h43 h.2.1)
        refine ⟨r, Ev.same hgo (Ev.go hgo2 (Ev.go (h := fun k => haversackref13_Mark.j2 k (str l) (q : Int) true) (fun k => ?_) (Ev.go (fun k => ?_) hr))), hp⟩
        · rw [hd, haversackref13_Mark.j1, if_pos rfl, hw1]
        · rw [haversackref13_Mark.j2]
      · have hd : (((l.getD q 0).toNat : Int) == 43) = false := by
          simp only [beq_eq_false_iff_ne, ne_eq]
          intro e
          exact h43 (UInt8.toNat_inj.1 (show (l.getD q 0).toNat = (43 : UInt8).toNat by have : (43 : UInt8).toNat = 43 := rfl; omega))
        obtain ⟨r, hr, hp⟩ := key (q + 1) false (by omega) (fun t n' on' _ d d1 d2 d4 => by
          obtain ⟨_, h | h⟩ := hlast t on' d d1 d2 d4
          · exact absurd h.2.1 h43
          · exact h.2.2)
        refine ⟨r, Ev.same hgo (Ev.go hgo2 (Ev.go (h := fun k => haversackref13_Mark.j2 k (str l) ((q + 1 : Nat) : Int) false) (fun k => ?_) (Ev.go (fun k => ?_) hr))), hp⟩
        · rw [hd, haversackref13_Mark.j1, if_neg (by decide)]
        · rw [haversackref13_Mark.j2]
    · obtain rfl : m = 0 := by omega
      obtain ⟨r, hr, hp⟩ := key 0 false (by omega) (fun t n' on' _ d d1 d2 d4 => by
        obtain ⟨h, _⟩ := hlast t on' d d1 d2 d4
        omega)
      refine ⟨r, Ev.same hgo (Ev.go (h := fun k => haversackref13_Mark.j1 k (str l) ((0 : Nat) : Int) false) (fun k => ?_) (Ev.go (h := fun k => haversackref13_Mark.j2 k (str l) ((0 : Nat) : Int) false) (fun k => ?_) (Ev.go (fun k => ?_) hr))), hp⟩
      · rw [haversackref13_Mark.j0, if_neg (by decide), if_neg hm0]
      · rw [haversackref13_Mark.j1, if_neg (by decide)]
      · rw [haversackref13_Mark.j2]
  · have hd : ((c.toNat : Int) != 125) = true := by
      simp only [bne_iff_ne, ne_eq]
      intro e
      exact h125 (UInt8.toNat_inj.1 (show c.toNat = (125 : UInt8).toNat by have : (125 : UInt8).toNat = 125 := rfl; omega))
    rw [hd] at hgo
    refine ⟨(-1, 0, false), Ev.same hgo (Ev.go (fun k => by rw [haversackref13_Mark.j0, if_pos rfl]) (Ev.ret _)), fun _ => ?_⟩
    unfold markS
    rw [if_neg]
    rw [hpc, hasS_one]
    simp
    exact fun e => h125 e.symm
end Go.Proofs.YtakfdmhoooeejaaDoor.PP
