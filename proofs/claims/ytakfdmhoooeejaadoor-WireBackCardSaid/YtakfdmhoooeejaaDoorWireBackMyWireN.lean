/- YtakfdmhoooeejaaDoorMyWireN, as far as WireBack needs it (prune.py). -/
import Derived.Test.YtakfdmhoooeejaaDoorWireBackMyWireM
namespace Go.Proofs.YtakfdmhoooeejaaDoor.PP
open Go.RowKit Go.Proofs.YtakfdmhoooeejaaDoorW.PrintWords Go.Proofs.YtakfdmhoooeejaaDoorW.PrintLast Go.Proofs.YtakfdmhoooeejaaDoorW.PrintMore
open Go.Proofs.YtakfdmhoooeejaaDoor.My
set_option linter.unusedVariables false
set_option linter.unusedSimpArgs false
theorem isStr (s : ByteArray) : ∃ l, s = str l := ⟨s.data.toList, rfl⟩
theorem clean_l1 (P : Prop) (xs : List ByteArray) (n i : Int) (x3 : Int) (l : List UInt8) (hl : l.length ≤ 1000000000000000)
    (hk : ∃ r, Ev (fun k => haversacklaw13_clean.l0 k x3 xs n (wrap64 (i + 1))) r ∧ (r = true → P)) :
    ∀ (m j : Nat), j + m = l.length → ∃ r, Ev (fun k => haversacklaw13_clean.l1 k x3 (str l) xs n i (l.length : Int) j) r ∧ (r = true → (∀ c ∈ l.drop j, c ≠ 10) ∧ markS l = none ∧ P)
  | 0, j, h => by
    obtain ⟨mk, hmk, hmp⟩ := mark_ev l hl
    obtain ⟨r, hr, hp⟩ := hk
    have hdrop : l.drop j = [] := List.drop_eq_nil_of_le (by omega)
    have hz : (str l).size = l.length := rfl
    have hgo : ∀ k, haversacklaw13_clean.l1 (k + 1) x3 (str l) xs n i (l.length : Int) j = ((haversackref13_Mark.f k (str l)).bind fun bt123 => (if ((str l).size : Int) > 0 then (if 0 ≤ (wrap64 (((str l).size : Int) - 1)) then (if (wrap64 (((str l).size : Int) - 1)) < ((str l).size : Int) then (if (bt (str l) (wrap64 (((str l).size : Int) - 1))) = 13 then (some false) else (if bt123.1 ≥ 0 then (some false) else (haversacklaw13_clean.l0 k x3 xs n (wrap64 (i + 1))))) else (none)) else (none)) else (if bt123.1 ≥ 0 then (some false) else (haversacklaw13_clean.l0 k x3 xs n (wrap64 (i + 1)))))) := fun k => by
      rw [haversacklaw13_clean.l1, if_neg (by omega)]
    have hfin : ∀ (g : Nat → Option Bool), (∀ k, g k = (if mk.1 ≥ 0 then (some false) else (haversacklaw13_clean.l0 k x3 xs n (wrap64 (i + 1))))) → ∃ r, Ev g r ∧ (r = true → (∀ c ∈ l.drop j, c ≠ 10) ∧ markS l = none ∧ P) := by
      intro g hg
      by_cases h1 : mk.1 ≥ 0
      · exact ⟨false, Ev.same (fun k => by rw [hg, if_pos h1]) (Ev.ret _), fun h => by cases h⟩
      · exact ⟨r, Ev.same (fun k => by rw [hg, if_neg h1]) hr, fun h => ⟨by rw [hdrop]; simp, hmp (by omega), hp h⟩⟩
    by_cases h0 : ((str l).size : Int) > 0
    · have hw : wrap64 (((str l).size : Int) - 1) = (str l).size - 1 := w64 (by omega)
      by_cases h13 : (bt (str l) (wrap64 (((str l).size : Int) - 1))) = 13
      · exact ⟨false, Ev.go hgo (Ev.bd hmk (Ev.same (fun k => by rw [if_pos h0, if_pos (by omega), if_pos (by omega), if_pos h13]) (Ev.ret _))), fun h => by cases h⟩
      · obtain ⟨r, hr, hp⟩ := hfin (fun k => if mk.1 ≥ 0 then (some false) else (haversacklaw13_clean.l0 k x3 xs n (wrap64 (i + 1)))) (fun _ => rfl)
        exact ⟨r, Ev.go hgo (Ev.bd hmk (Ev.same (fun k => by rw [if_pos h0, if_pos (by omega), if_pos (by omega), if_neg h13]) hr)), hp⟩
    · obtain ⟨r, hr, hp⟩ := hfin (fun k => if mk.1 ≥ 0 then (some false) else (haversacklaw13_clean.l0 k x3 xs n (wrap64 (i + 1)))) (fun _ => rfl)
      exact ⟨r, Ev.go hgo (Ev.bd hmk (Ev.same (fun k => by rw [if_neg h0]) hr)), hp⟩
  | m + 1, j, h => by
    have hb := bt_str l j (by omega)
    by_cases h10 : (bt (str l) (j : Int)) = 10
    · refine ⟨false, Ev.go (h := fun _ => some false) (fun k => ?_) (Ev.ret _), fun h => by cases h⟩
      rw [haversacklaw13_clean.l1, if_pos (by omega), if_pos (by omega), if_pos (by rw [str_size]; omega), if_pos h10]
    · obtain ⟨r, hr, hp⟩ := clean_l1 P xs n i x3 l hl hk m (j + 1) (by omega)
      refine ⟨r, Ev.go (fun k => ?_) hr, fun h => ?_⟩
      · rw [haversacklaw13_clean.l1, if_pos (by omega), if_pos (by omega), if_pos (by rw [str_size]; omega), if_neg h10, w64 (show -9223372036854775808 ≤ (j : Int) + 1 ∧ (j : Int) + 1 ≤ 9223372036854775807 by omega)]
        rfl
      · obtain ⟨a, b, c⟩ := hp h
        refine ⟨fun c hc => ?_, b, c⟩
        rw [List.drop_eq_getElem_cons (by omega)] at hc
        rcases List.mem_cons.1 hc with rfl | hc
        · intro e
          rw [hb, List.getD_eq_getElem?_getD, List.getElem?_eq_getElem (by omega), Option.getD_some, e] at h10
          exact h10 rfl
        · exact a c hc
theorem clean_l0 (xs : List ByteArray) (hsz : ∀ t ∈ xs, t.size ≤ 1000000000000000) (hx : xs.length ≤ 100) : ∀ (m i : Nat) (x3 : Int), i + m = xs.length → 0 ≤ x3 → x3 ≤ 200 + 1000000000000000 * i →
    ∃ r, Ev (fun k => haversacklaw13_clean.l0 k x3 xs (xs.length : Int) i) r ∧ (r = true → (∀ t ∈ xs.drop i, plainT t) ∧ x3 + szs (xs.drop i) ≤ 4000)
  | 0, i, x3, h, h0, hb => by
    refine ⟨_, Ev.go (fun k => by rw [haversacklaw13_clean.l0, if_neg (by omega)]) (Ev.ret _), fun h => ?_⟩
    rw [List.drop_eq_nil_of_le (by omega), szs_nil]
    have := of_decide_eq_true h
    exact ⟨by simp, by omega⟩
  | m + 1, i, x3, h, h0, hb => by
    have hi : i < xs.length := by omega
    have hxi := hsz _ (List.getElem_mem hi)
    obtain ⟨l, hl⟩ := isStr xs[i]
    have hll : xs[i].size = l.length := by rw [hl]; rfl
    have hw : wrap64 (x3 + (xs[i].size : Int)) = x3 + (xs[i].size : Int) := w64 (by omega)
    have ih := clean_l0 xs hsz hx m (i + 1) (x3 + (xs[i].size : Int)) (by omega) (by omega) (by omega)
    have hwi : wrap64 ((i : Int) + 1) = ((i + 1 : Nat) : Int) := by rw [w64 (by omega)]; rfl
    rw [← hwi] at ih
    obtain ⟨r, hr, hp⟩ := clean_l1 _ xs (xs.length : Int) (i : Int) (x3 + (xs[i].size : Int)) l (by omega) ih l.length 0 (by omega)
    refine ⟨r, Ev.go (fun k => ?_) hr, fun h => ?_⟩
    · rw [haversacklaw13_clean.l0, if_pos (by omega), if_pos (by omega), if_pos (by omega), rdB xs i hi, hw, hll, hl]
      rfl
    · obtain ⟨a, b, c, d⟩ := hp h
      rw [dropB xs i hi, szs_cons]
      refine ⟨fun t ht => ?_, by omega⟩
      rcases List.mem_cons.1 ht with rfl | ht
      · rw [List.drop_zero] at a
        refine ⟨?_, ?_⟩
        · rw [hl]; exact a
        · rw [hl]; exact b
      · exact c t ht
theorem clean_ev (ts ls : List ByteArray) (hsz : ∀ t ∈ ts, t.size ≤ 1000000000000000) (hl : ls.length ≤ 1000000000000000) : ∃ r, Ev (fun k => haversacklaw13_clean.f k ts ls) r ∧ (r = true → ts.length = ls.length + 1 ∧ ls.length ≤ 20 ∧ (∀ t ∈ ts, plainT t) ∧ 8 * ls.length + szs ts ≤ 4000) := by
  have hw : wrap64 ((ls.length : Int) + 1) = (ls.length : Int) + 1 := w64 (by omega)
  have ht : Ev (fun k => haversacklaw13_clean.j0 k true ts ls) false := Ev.go (fun k => by rw [haversacklaw13_clean.j0, if_pos rfl]) (Ev.ret _)
  by_cases h1 : (ts.length : Int) = wrap64 ((ls.length : Int) + 1)
  · by_cases h2 : (ls.length : Int) > 20
    · exact ⟨false, Ev.same (fun k => by rw [haversacklaw13_clean.f, if_pos h1, decide_eq_true h2]) ht, fun h => by cases h⟩
    · have hw8 : wrap64 (8 * (ls.length : Int)) = 8 * (ls.length : Int) := w64 (by omega)
      obtain ⟨r, hr, hp⟩ := clean_l0 ts hsz (by omega) ts.length 0 (8 * (ls.length : Int)) (by omega) (by omega) (by omega)
      refine ⟨r, Ev.same (fun k => by rw [haversacklaw13_clean.f, if_pos h1, decide_eq_false h2]) (Ev.go (fun k => by rw [haversacklaw13_clean.j0, if_neg (by decide), hw8]; rfl) hr), fun h => ?_⟩
      obtain ⟨a, b⟩ := hp h
      rw [List.drop_zero] at a b
      exact ⟨by omega, by omega, a, by omega⟩
  · exact ⟨false, Ev.same (fun k => by rw [haversacklaw13_clean.f, if_neg h1]) ht, fun h => by cases h⟩
theorem lb_app (a b : ByteArray) : lbytes (a ++ b) = lbytes a ++ lbytes b := by simp [lbytes]
theorem lb_ext {a b : ByteArray} (h : lbytes a = lbytes b) : a = b := by
  have : str (lbytes a) = str (lbytes b) := by rw [h]
  exact this
theorem dig_one (u : Nat) : strOfNums [(wrap64 (48 + (Int.tmod (u : Int) 10))) % 256] = str [UInt8.ofNat (48 + u % 10)] := by
  rw [Int.tmod_eq_emod_of_nonneg (by omega), w64 (by omega), show (48 + (u : Int) % 10) % 256 = ((48 + u % 10 : Nat) : Int) by omega]
  unfold strOfNums str
  simp only [List.map_cons, List.map_nil, Int.toNat_natCast]
theorem digits_l0 : ∀ (u : Nat) (s : ByteArray), 0 < u → s.size + u ≤ 1000000000 → Ev (fun k => haversackref13_digits.l0 k u s) (str (Lib.decDigits u ++ lbytes s))
  | u, s, h0, hb => by
    have hd := dig_one u
    have hw : wrap64 (Int.tdiv (u : Int) 10) = ((u / 10 : Nat) : Int) := by rw [Int.tdiv_eq_ediv_of_nonneg (by omega), w64 (by omega)]; omega
    have hsz : (str [UInt8.ofNat (48 + u % 10)]).size = 1 := rfl
    have hgo : ∀ k, haversackref13_digits.l0 (k + 1) u s = haversackref13_digits.l0 k ((u / 10 : Nat) : Int) (str [UInt8.ofNat (48 + u % 10)] ++ s) := fun k => by
      rw [haversackref13_digits.l0, if_pos (by omega), Option.bind_some, hd, if_pos (by rw [hsz]; omega), hw]
    by_cases h : u < 10
    · have hv : str [UInt8.ofNat (48 + u % 10)] ++ s = str (Lib.decDigits u ++ lbytes s) := lb_ext (by rw [lb_app, Lib.decDigits, dif_pos h, Nat.mod_eq_of_lt h]; rfl)
      rw [hv] at hgo
      refine Ev.go hgo (Ev.go (h := fun _ => some _) (fun k => ?_) (Ev.ret _))
      rw [haversackref13_digits.l0, show ((u / 10 : Nat) : Int) = 0 by omega, if_neg (by omega), if_neg]
      intro e
      have : (Lib.decDigits u ++ lbytes s).length = 0 := by rw [show Lib.decDigits u ++ lbytes s = (str (Lib.decDigits u ++ lbytes s)).toList from (ba_toList _).symm, e]; rfl
      rw [Lib.decDigits, dif_pos h] at this
      simp at this
    · have ih := digits_l0 (u / 10) (str [UInt8.ofNat (48 + u % 10)] ++ s) (by omega) (by rw [ByteArray.size_append, hsz]; omega)
      have hv : Lib.decDigits (u / 10) ++ lbytes (str [UInt8.ofNat (48 + u % 10)] ++ s) = Lib.decDigits u ++ lbytes s := by
        conv => rhs; rw [Lib.decDigits, dif_neg h]
        rw [lb_app, List.append_assoc]; rfl
      rw [hv] at ih
      exact Ev.go hgo ih
termination_by u => u
decreasing_by omega
theorem digits_ev (u : Nat) (hu : u ≤ 1000000) : Ev (fun k => haversackref13_digits.f k u) (str (Lib.decDigits u)) := by
  refine Ev.same (fun k => by rw [haversackref13_digits.f]) ?_
  rcases Nat.eq_zero_or_pos u with rfl | h
  · have hd := dig_one 0
    refine Ev.go (h := fun k => haversackref13_digits.l0 k 0 (str [48])) (fun k => ?_) (Ev.go (h := fun _ => some _) (fun k => ?_) (Ev.ret _))
    · rw [haversackref13_digits.l0, if_neg (by decide), if_pos (by exact ba_toList []), Option.bind_some, hd, if_pos (by decide), show wrap64 (Int.tdiv ((0 : Nat) : Int) 10) = 0 by decide +kernel, show str [UInt8.ofNat (48 + 0 % 10)] ++ (⟨#[]⟩ : ByteArray) = str [48] from lb_ext (by rw [lb_app]; rfl)]
    · rw [haversackref13_digits.l0, if_neg (by decide), if_neg (by rw [show (str [48]).toList = [48] from ba_toList _]; decide)]
      rw [Lib.decDigits, dif_pos (by decide)]
      rfl
  · have := digits_l0 u ⟨#[]⟩ h (by have : (⟨#[]⟩ : ByteArray).size = 0 := rfl; omega)
    rw [show lbytes ⟨#[]⟩ = [] from rfl, List.append_nil] at this
    exact this
theorem bytes_l0 (ts ls : List ByteArray) (hlen : ts.length = ls.length + 1) (hl : ls.length ≤ 100) (hsz : szs ts + szs ls ≤ 20000) : ∀ (m i : Nat) (x3 : ByteArray), i + m = ls.length → x3.size ≤ 100000 * i →
    Ev (fun k => haversackref13_Bytes.l0 k x3 i ts ls) (x3 ++ str (rawL (ts.drop i) (ls.drop i)))
  | 0, i, x3, h, hb => by
    obtain rfl : i = ls.length := by omega
    have ht := szs_mem (List.getElem_mem (show ls.length < ts.length by omega))
    have hend : ts.drop (ls.length + 1) = [] := List.drop_eq_nil_of_le (by omega)
    have hv : (x3 ++ ts[ls.length]) ++ ⟨#[13, 10]⟩ = x3 ++ str (rawL (ts.drop ls.length) (ls.drop ls.length)) := lb_ext (by
      rw [dropB ts ls.length (by omega), hend, List.drop_eq_nil_of_le (Nat.le_refl _), lb_app, lb_app, lb_app, List.append_assoc]; rfl)
    rw [← hv]
    refine Ev.go (h := fun _ => some _) (fun k => ?_) (Ev.ret _)
    rw [haversackref13_Bytes.l0, if_neg (by omega), if_pos (by omega), if_pos (by omega), rdB ts ls.length (by omega), if_pos (by omega), if_pos (by omega)]
  | m + 1, i, x3, h, hb => by
    have hi : i < ls.length := by omega
    have hti : i < ts.length := by omega
    have ht := szs_mem (List.getElem_mem hti)
    have hlz := szs_mem (List.getElem_mem hi)
    have hdl : (Lib.decDigits ls[i].size).length ≤ 5 := decDigits_len 4 _ (by omega)
    have hdz : (str (Lib.decDigits ls[i].size)).size = (Lib.decDigits ls[i].size).length := rfl
    have hv : ((((x3 ++ ts[i]) ++ (⟨#[123]⟩ : ByteArray)) ++ str (Lib.decDigits ls[i].size)) ++ (⟨#[43, 125, 13, 10]⟩ : ByteArray)) ++ ls[i] ++ str (rawL (ts.drop (i + 1)) (ls.drop (i + 1))) = x3 ++ str (rawL (ts.drop i) (ls.drop i)) := lb_ext (by
      rw [dropB ts i hti, dropB ls i hi]
      simp only [lb_app, rawL, mk]
      show _ ++ _ ++ [123] ++ Lib.decDigits ls[i].size ++ [43, 125, 13, 10] ++ _ ++ rawL _ _ = _ ++ (_ ++ _ ++ _ ++ _ ++ _)
      simp [List.append_assoc])
    rw [← hv]
    have ih := bytes_l0 ts ls hlen hl hsz m (i + 1) (((((x3 ++ ts[i]) ++ (⟨#[123]⟩ : ByteArray)) ++ str (Lib.decDigits ls[i].size)) ++ (⟨#[43, 125, 13, 10]⟩ : ByteArray)) ++ ls[i]) (by omega) (by
      simp only [ByteArray.size_append]
      have e1 : (⟨#[123]⟩ : ByteArray).size = 1 := rfl
      have e2 : (⟨#[43, 125, 13, 10]⟩ : ByteArray).size = 4 := rfl
      omega)
    refine Ev.go (h := fun k => ((haversackref13_digits.f k ((rdOf ByteArray.empty ls i).size : Int)).bind fun t164 => (if x3.size + (rdOf ByteArray.empty ts i).size + 1 + t164.size ≤ 9223372036854775807 then (if x3.size + (rdOf ByteArray.empty ts i).size + 1 + t164.size + 4 ≤ 9223372036854775807 then (if x3.size + (rdOf ByteArray.empty ts i).size + 1 + t164.size + 4 + (rdOf ByteArray.empty ls i).size ≤ 9223372036854775807 then (haversackref13_Bytes.l0 k (((((x3 ++ (rdOf ByteArray.empty ts i)) ++ (⟨#[123]⟩ : ByteArray)) ++ t164) ++ (⟨#[43, 125, 13, 10]⟩ : ByteArray)) ++ (rdOf ByteArray.empty ls i)) (wrap64 (i + 1)) ts ls) else (none)) else (none)) else (none)))) (fun k => ?_) ?_
    · rw [haversackref13_Bytes.l0, if_pos (by omega), if_pos (by omega), if_pos (by omega), if_pos (by rw [rdB ts i hti]; omega), if_pos (by rw [rdB ts i hti]; omega)]
    · rw [rdB ts i hti, rdB ls i hi]
      refine Ev.bd (digits_ev _ (by omega)) ?_
      refine Ev.same (fun k => ?_) ih
      rw [if_pos (by omega), if_pos (by omega), if_pos (by omega), w64 (show -9223372036854775808 ≤ (i : Int) + 1 ∧ (i : Int) + 1 ≤ 9223372036854775807 by omega)]
      rfl
/-- The bytes of any command. -/
def bytesS (ts ls : List ByteArray) : List UInt8 := if ts.length = ls.length + 1 then rawL ts ls else []
theorem bytes_ev (ts ls : List ByteArray) (ht : ts.length ≤ 40) (hl : ls.length ≤ 40) (hsz : szs ts + szs ls ≤ 20000) : Ev (fun k => haversackref13_Bytes.f k ts ls) (str (bytesS ts ls)) := by
  have hw : wrap64 ((ls.length : Int) + 1) = (ls.length : Int) + 1 := w64 (by omega)
  unfold bytesS
  by_cases h : ts.length = ls.length + 1
  · rw [if_pos h]
    have := bytes_l0 ts ls h (by omega) hsz ls.length 0 ⟨#[]⟩ (by omega) (by decide)
    have hv : (⟨#[]⟩ : ByteArray) ++ str (rawL (ts.drop 0) (ls.drop 0)) = str (rawL ts ls) := lb_ext (by rw [lb_app]; rfl)
    rw [hv] at this
    exact Ev.same (fun k => by rw [haversackref13_Bytes.f, if_pos (by omega)]; rfl) this
  · rw [if_neg h]
    exact Ev.same (fun k => by rw [haversackref13_Bytes.f, if_neg (by omega)]; rfl) (Ev.ret _)
theorem rawL_len : ∀ (ts ls : List ByteArray), (∀ l ∈ ls, l.size ≤ 20000) → (rawL ts ls).length ≤ szs ts + szs ls + 12 * ts.length
  | [], ls, _ => by simp [rawL]
  | t :: ts, [], _ => by
    simp only [rawL, List.length_append, lbytes_len, szs_cons, List.length_cons, List.length_nil]
    omega
  | t :: ts, l :: ls, h => by
    have ih := rawL_len ts ls (fun x hx => h x (List.mem_cons_of_mem _ hx))
    have hd : (Lib.decDigits l.size).length ≤ 5 := decDigits_len 4 _ (by have := h l (List.mem_cons_self ..); omega)
    simp only [rawL, mk, List.length_append, lbytes_len, szs_cons, List.length_cons, List.length_nil]
    omega
end Go.Proofs.YtakfdmhoooeejaaDoor.PP
