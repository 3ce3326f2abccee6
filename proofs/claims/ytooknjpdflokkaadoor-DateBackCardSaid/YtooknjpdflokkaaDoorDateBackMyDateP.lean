/- YtooknjpdflokkaaDoorMyDateP, as far as DateBack needs it (prune.py). -/
import Derived.Test.YtooknjpdflokkaaDoorDateBackPPx8
import Derived.Test.YtooknjpdflokkaaDoorDateBackPPx6
import Derived.Test.YtooknjpdflokkaaDoorDateBackPPx19
import Derived.Test.YtooknjpdflokkaaDoorDateBackPPx18
import Derived.Test.YtooknjpdflokkaaDoorDateBackPPx19
import Derived.Test.YtooknjpdflokkaaDoorDateBackMyDateB
namespace Go.Proofs.YtooknjpdflokkaaDoor.Pure
open Go.RowKit Go.Proofs.YtooknjpdflokkaaDoor.PP Go.Proofs.YtooknjpdflokkaaDoor.My Go.Proofs.YtooknjpdflokkaaDoorW.PrintWords Go.Proofs.YtooknjpdflokkaaDoorW.PrintLast
set_option linter.unusedVariables false
set_option linter.unusedSimpArgs false
def dd (x : Int) : UInt8 := UInt8.ofNat (48 + x % 10).toNat
theorem dd_nat (x : Int) : ((dd x).toNat : Int) = 48 + x % 10 := by
  have := Int.emod_nonneg x (b := 10) (by decide)
  have := Int.emod_lt_of_pos x (b := 10) (by decide)
  unfold dd
  rw [UInt8.toNat_ofNat']
  omega
theorem dd_dig (x : Int) : isDig (dd x) = true := by
  have h := dd_nat x
  have := Int.emod_nonneg x (b := 10) (by decide)
  have := Int.emod_lt_of_pos x (b := 10) (by decide)
  unfold isDig
  simp only [Bool.and_eq_true, decide_eq_true_eq, UInt8.le_iff_toNat_le]
  constructor
  · show (48 : Nat) ≤ _; omega
  · show _ ≤ (57 : Nat); omega
theorem digits2 {k : Nat} (hk : 4 ≤ k) {x : Int} (h0 : 0 ≤ x) (h1 : x ≤ 1000000) : date_digits.f k x 2 = some ⟨#[dd (x / 10), dd x]⟩ := by
  obtain ⟨k, rfl⟩ : ∃ m, k = m + 3 := ⟨k - 3, by omega⟩
  have e1 : wrap64 (Int.tdiv x 10) = x / 10 := by rw [Int.tdiv_eq_ediv_of_nonneg h0, w64 (by omega)]
  have e2 : wrap64 (Int.tdiv (x / 10) 10) = x / 10 / 10 := by rw [Int.tdiv_eq_ediv_of_nonneg (by omega), w64 (by omega)]
  have m1 : wrap64 (48 + Int.tmod x 10) % 256 = 48 + x % 10 := by rw [Int.tmod_eq_emod_of_nonneg h0, w64 (by omega)]; omega
  have m2 : wrap64 (48 + Int.tmod (x / 10) 10) % 256 = 48 + x / 10 % 10 := by rw [Int.tmod_eq_emod_of_nonneg (by omega), w64 (by omega)]; omega
  have w0 : wrap64 0 = 0 := by decide +kernel
  have w1 : wrap64 1 = 1 := by decide +kernel
  have w2 : wrap64 2 = 2 := by decide +kernel
  have w3 : wrap64 3 = 3 := by decide +kernel
  have wm : wrap64 (-1) = -1 := by decide +kernel
  simp [date_digits.f, date_digits.l0, e1, m1, m2, w0, w1, wm, strOfNums, dd]
theorem digits4 {k : Nat} (hk : 6 ≤ k) {x : Int} (h0 : 0 ≤ x) (h1 : x ≤ 1000000) : date_digits.f k x 4 = some ⟨#[dd (x / 1000), dd (x / 100), dd (x / 10), dd x]⟩ := by
  obtain ⟨k, rfl⟩ : ∃ m, k = m + 5 := ⟨k - 5, by omega⟩
  have e : ∀ y : Int, 0 ≤ y → y ≤ 1000000 → wrap64 (Int.tdiv y 10) = y / 10 := fun y a b => by rw [Int.tdiv_eq_ediv_of_nonneg a, w64 (by omega)]
  have m : ∀ y : Int, 0 ≤ y → y ≤ 1000000 → wrap64 (48 + Int.tmod y 10) % 256 = 48 + y % 10 := fun y a b => by rw [Int.tmod_eq_emod_of_nonneg a, w64 (by omega)]; omega
  have d1 : x / 10 / 10 = x / 100 := by omega
  have d2 : x / 100 / 10 = x / 1000 := by omega
  have w0 : wrap64 0 = 0 := by decide +kernel
  have w1 : wrap64 1 = 1 := by decide +kernel
  have w2 : wrap64 2 = 2 := by decide +kernel
  have w3 : wrap64 3 = 3 := by decide +kernel
  have wm : wrap64 (-1) = -1 := by decide +kernel
  simp [date_digits.f, date_digits.l0, e x h0 h1, e (x / 10) (by omega) (by omega), e (x / 100) (by omega) (by omega), m x h0 h1, m (x / 10) (by omega) (by omega), m (x / 100) (by omega) (by omega), m (x / 1000) (by omega) (by omega), d1, d2, w0, w1, w2, w3, wm, strOfNums, dd]
/-- A month's letters; a zone; a date's text. -/
def mon (m : Int) : List UInt8 := (monthsL.drop (3 * (m - 1)).toNat).take 3
def zon (z : Int) : List UInt8 := if z < 0 then [45, dd (-z / 60 / 10), dd (-z / 60), dd (-z % 60 / 10), dd (-z % 60)] else [43, dd (z / 60 / 10), dd (z / 60), dd (z % 60 / 10), dd (z % 60)]
def prn (y m d h mi s z : Int) : List UInt8 :=
  ((if d < 10 then [32, dd d] else [dd (d / 10), dd d]) : List UInt8) ++ [45] ++ mon m ++ [45, dd (y / 1000), dd (y / 100), dd (y / 10), dd y, 32, dd (h / 10), dd h, 58, dd (mi / 10), dd mi, 58, dd (s / 10), dd s, 32] ++ zon z
theorem zone_k {k : Nat} (hk : 4 ≤ k) {z : Int} (h : -1439 ≤ z ∧ z ≤ 1439) : date_zone.f k z = some ⟨(zon z).toArray⟩ := by
  unfold date_zone.f zon
  by_cases hz : z < 0
  · have e : wrap64 (-z) = -z := w64 (by omega)
    rw [if_pos hz, if_pos hz, e, Int.tdiv_eq_ediv_of_nonneg (by omega), Int.tmod_eq_emod_of_nonneg (by omega), w64 (by omega), digits2 hk (by omega) (by omega), digits2 hk (by omega) (by omega)]
    simp only [Option.bind_some]
    rw [if_pos (by simp [ByteArray.size]), if_pos (by simp [ByteArray.size])]
    rfl
  · rw [if_neg hz, if_neg hz, Int.tdiv_eq_ediv_of_nonneg (by omega), Int.tmod_eq_emod_of_nonneg (by omega), w64 (by omega), digits2 hk (by omega) (by omega), digits2 hk (by omega) (by omega)]
    simp only [Option.bind_some]
    rw [if_pos (by simp [ByteArray.size]), if_pos (by simp [ByteArray.size])]
    rfl
theorem mon_cut {m : Int} (h1 : 1 ≤ m) (h2 : m ≤ 12) : ∃ a b c, mon m = [a, b, c] ∧ (⟨#[74, 97, 110, 70, 101, 98, 77, 97, 114, 65, 112, 114, 77, 97, 121, 74, 117, 110, 74, 117, 108, 65, 117, 103, 83, 101, 112, 79, 99, 116, 78, 111, 118, 68, 101, 99]⟩ : ByteArray).extract ((wrap64 ((wrap64 (3 * m)) - 3)) : Int).toNat ((wrap64 (3 * m)) : Int).toNat = ⟨#[a, b, c]⟩ ∧ haversackref09_Months.f m = some ⟨#[a, b, c]⟩ := by
  have : m = 1 ∨ m = 2 ∨ m = 3 ∨ m = 4 ∨ m = 5 ∨ m = 6 ∨ m = 7 ∨ m = 8 ∨ m = 9 ∨ m = 10 ∨ m = 11 ∨ m = 12 := by omega
  rcases this with rfl | rfl | rfl | rfl | rfl | rfl | rfl | rfl | rfl | rfl | rfl | rfl <;> exact ⟨_, _, _, rfl, by decide +kernel, by decide +kernel⟩
def prB (y m d h mi s z : Int) : ByteArray := if rgt y m d h mi s z = true then ⟨(prn y m d h mi s z).toArray⟩ else ⟨#[]⟩
theorem rgt_all {y m d h mi s z : Int} (hr : rgt y m d h mi s z = true) : (1 ≤ y ∧ y ≤ 9999) ∧ (1 ≤ m ∧ m ≤ 12) ∧ (1 ≤ d ∧ d ≤ 31) ∧ (0 ≤ h ∧ h ≤ 23) ∧ (0 ≤ mi ∧ mi ≤ 59) ∧ (0 ≤ s ∧ s ≤ 59) ∧ -1439 ≤ z ∧ z ≤ 1439 := by
  unfold rgt at hr
  rw [Bool.and_eq_true] at hr
  have h1 := vld_iff.1 hr.1
  have h2 := clk_iff.1 hr.2
  have h3 := dim_bd y m
  omega
theorem zon_len (z : Int) : (zon z).length = 5 := by unfold zon; split <;> rfl
theorem ba_append (a b : List UInt8) : (⟨a.toArray⟩ : ByteArray) ++ ⟨b.toArray⟩ = ⟨(a ++ b).toArray⟩ := by
  apply ByteArray.ext; simp
theorem print_j {k : Nat} (hk : 8 ≤ k) {y m d h mi s z : Int} (hr : rgt y m d h mi s z = true) (a b : UInt8) :
    date_Print.j0 k ⟨#[a, b]⟩ y m d h mi s z = some ⟨([a, b] ++ [45] ++ mon m ++ [45, dd (y / 1000), dd (y / 100), dd (y / 10), dd y, 32, dd (h / 10), dd h, 58, dd (mi / 10), dd mi, 58, dd (s / 10), dd s, 32] ++ zon z).toArray⟩ := by
  obtain ⟨k, rfl⟩ : ∃ n, k = n + 1 := ⟨k - 1, by omega⟩
  obtain ⟨hy, hm, hd, hh, hmi, hs, hz⟩ := rgt_all hr
  obtain ⟨c1, c2, c3, e1, e2, e3⟩ := mon_cut hm.1 hm.2
  have zl := zon_len z
  have w1 : wrap64 (3 * m) = 3 * m := w64 (by omega)
  have w2 : wrap64 (3 * m - 3) = 3 * m - 3 := w64 (by omega)
  rw [w1, w2] at e2
  simp only [date_Print.j0, digits2 (k := k) (by omega) hh.1 (by omega), digits2 (k := k) (by omega) hmi.1 (by omega), digits2 (k := k) (by omega) hs.1 (by omega), digits4 (k := k) (by omega) (x := y) (by omega) (by omega), zone_k (k := k) (by omega) hz, Option.bind_some, w1, w2, e2, e1]
  simp only [ByteArray.size, List.size_toArray, List.length_cons, List.length_nil, zl, ba_append]
  repeat rw [if_pos (by omega)]
  simp
theorem print_k {k : Nat} (hk : 8 ≤ k) (y m d h mi s z : Int) : date_Print.f k y m d h mi s z = some (prB y m d h mi s z) := by
  unfold date_Print.f prB
  rw [right_k (by omega)]
  simp only [Option.bind_some]
  by_cases hr : rgt y m d h mi s z = true
  · obtain ⟨hy, hm, hd, hh, hmi, hs, hz⟩ := rgt_all hr
    rw [if_pos hr, if_pos hr, digits2 (by omega) (by omega) (by omega)]
    simp only [Option.bind_some]
    unfold prn
    by_cases h10 : d < 10
    · rw [if_pos h10, if_pos h10, if_pos (by simp [ByteArray.size]), if_pos (by simp [ByteArray.size])]
      have e : (⟨#[32]⟩ : ByteArray) ++ ByteArray.extract ⟨#[dd (d / 10), dd d]⟩ 1 (ByteArray.size ⟨#[dd (d / 10), dd d]⟩) = ⟨#[32, dd d]⟩ := by
        apply ByteArray.ext; simp [ByteArray.size]
      rw [e, print_j hk hr]
    · rw [if_neg h10, if_neg h10, print_j hk hr]
  · rw [if_neg hr, if_neg hr]
theorem number2 {a b : UInt8} (ha : isDig a = true) (hb : isDig b = true) (r : List UInt8) : numberL 2 2 (a :: b :: r) = some (10 * ((a.toNat : Int) - 48) + ((b.toNat : Int) - 48), r) := by
  simp [numberL, digs, valL, ha, hb]
theorem number1 {a : UInt8} (ha : isDig a = true) (r : List UInt8) : numberL 1 1 (a :: r) = some ((a.toNat : Int) - 48, r) := by
  simp [numberL, digs, valL, ha]
theorem number4 {a b c d : UInt8} (ha : isDig a = true) (hb : isDig b = true) (hc : isDig c = true) (hd : isDig d = true) (r : List UInt8) :
    numberL 4 4 (a :: b :: c :: d :: r) = some (10 * (10 * (10 * ((a.toNat : Int) - 48) + ((b.toNat : Int) - 48)) + ((c.toNat : Int) - 48)) + ((d.toNat : Int) - 48), r) := by
  simp [numberL, digs, valL, ha, hb, hc, hd]
theorem must1 (a : UInt8) (r : List UInt8) : mustL [a] (a :: r) = some r := by simp [mustL]
theorem mon_read {m : Int} (h1 : 1 ≤ m) (h2 : m ≤ 12) (r : List UInt8) : monthM (mon m ++ r) = some (m, r) := by
  have : m = 1 ∨ m = 2 ∨ m = 3 ∨ m = 4 ∨ m = 5 ∨ m = 6 ∨ m = 7 ∨ m = 8 ∨ m = 9 ∨ m = 10 ∨ m = 11 ∨ m = 12 := by omega
  rcases this with rfl | rfl | rfl | rfl | rfl | rfl | rfl | rfl | rfl | rfl | rfl | rfl <;> rfl
theorem zon_read {z : Int} (h : -1439 ≤ z ∧ z ≤ 1439) : zoneL (zon z) = some (z, []) := by
  unfold zon
  by_cases hz : z < 0
  · have a := dd_nat (-z / 60 / 10)
    have b := dd_nat (-z / 60)
    have c := dd_nat (-z % 60 / 10)
    have d := dd_nat (-z % 60)
    rw [if_pos hz]
    simp only [zoneL]
    rw [if_pos (by decide), number2 (dd_dig _) (dd_dig _)]
    simp only [Option.bind_some]
    rw [number2 (dd_dig _) (dd_dig _)]
    simp only [Option.bind_some]
    rw [if_neg (by omega), if_pos trivial]
    congr 2; omega
  · have a := dd_nat (z / 60 / 10)
    have b := dd_nat (z / 60)
    have c := dd_nat (z % 60 / 10)
    have d := dd_nat (z % 60)
    rw [if_neg hz]
    simp only [zoneL]
    rw [if_pos (by decide), number2 (dd_dig _) (dd_dig _)]
    simp only [Option.bind_some]
    rw [number2 (dd_dig _) (dd_dig _)]
    simp only [Option.bind_some]
    rw [if_neg (by omega), if_neg (by decide)]
    congr 2; omega
theorem internal_prn {y m d h mi s z : Int} (hr : rgt y m d h mi s z = true) : internalL (prn y m d h mi s z) = some (y, m, d, h, mi, s, z) := by
  obtain ⟨hy, hm, hd, hh, hmi, hs, hz⟩ := rgt_all hr
  have key : ∀ (D : Option (Int × List UInt8)), D = some (d, 45 :: (mon m ++ ([45, dd (y / 1000), dd (y / 100), dd (y / 10), dd y, 32, dd (h / 10), dd h, 58, dd (mi / 10), dd mi, 58, dd (s / 10), dd s, 32] ++ zon z))) →
      (D.bind fun d => (mustL [45] d.2).bind fun l2 => (monthM l2).bind fun m => (mustL [45] m.2).bind fun l4 => (numberL 4 4 l4).bind fun y => (mustL [32] y.2).bind fun l6 =>
      (numberL 2 2 l6).bind fun h => (mustL [58] h.2).bind fun l8 => (numberL 2 2 l8).bind fun mi => (mustL [58] mi.2).bind fun l10 => (numberL 2 2 l10).bind fun s =>
      (mustL [32] s.2).bind fun l12 => (zoneL l12).bind fun z => some (y.1, m.1, d.1, h.1, mi.1, s.1, z.1)) = some (y, m, d, h, mi, s, z) := by
    rintro _ rfl
    have n1 := dd_nat (y / 1000)
    have n2 := dd_nat (y / 100)
    have n3 := dd_nat (y / 10)
    have n4 := dd_nat y
    have n5 := dd_nat (h / 10)
    have n6 := dd_nat h
    have n7 := dd_nat (mi / 10)
    have n8 := dd_nat mi
    have n9 := dd_nat (s / 10)
    have n0 := dd_nat s
    simp only [Option.bind_some, must1, mon_read hm.1 hm.2, List.cons_append, List.nil_append, number4 (dd_dig _) (dd_dig _) (dd_dig _) (dd_dig _), number2 (dd_dig _) (dd_dig _), zon_read hz, n1, n2, n3, n4, n5, n6, n7, n8, n9, n0]
    congr 1
    simp only [Prod.mk.injEq]
    refine ⟨by omega, trivial, trivial, by omega, by omega, by omega, trivial⟩
  unfold internalL
  have d1 := dd_nat (d / 10)
  have d2 := dd_nat d
  refine key _ ?_
  unfold prn
  by_cases h10 : d < 10
  · rw [if_pos h10]
    simp only [List.cons_append, List.nil_append, List.append_assoc]
    rw [if_pos (by simp), must1]
    simp only [Option.bind_some]
    rw [number1 (dd_dig _)]
    congr 2; omega
  · rw [if_neg h10]
    simp only [List.cons_append, List.nil_append, List.append_assoc]
    rw [if_neg, number2 (dd_dig _) (dd_dig _)]
    · congr 2; omega
    · have : dd (d / 10) ≠ 32 := fun e => by rw [e] at d1; have : (32 : UInt8).toNat = 32 := rfl; omega
      simp; exact fun e => this e.symm
end Go.Proofs.YtooknjpdflokkaaDoor.Pure
