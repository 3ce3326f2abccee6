/- YtooknjpdflokkaaMyDateP, as far as DatePrints needs it (prune.py). -/
import Derived.Test.YtooknjpdflokkaaDatePrintsPPx5
import Derived.Test.YtooknjpdflokkaaDatePrintsPPx12
import Derived.Test.YtooknjpdflokkaaDatePrintsPPx7
import Derived.Test.YtooknjpdflokkaaDatePrintsPPx16
import Derived.Test.YtooknjpdflokkaaDatePrintsPPx15
import Derived.Test.YtooknjpdflokkaaDatePrintsMyDateB
namespace Go.Proofs.Ytooknjpdflokkaa.Pure
open Go.RowKit Go.Proofs.Ytooknjpdflokkaa.PP Go.Proofs.Ytooknjpdflokkaa.My Go.Proofs.YtooknjpdflokkaaW.PrintWords Go.Proofs.YtooknjpdflokkaaW.PrintLast
set_option linter.unusedVariables false
set_option linter.unusedSimpArgs false
def dd (x : Int) : UInt8 := UInt8.ofNat (48 + x % 10).toNat
theorem dd_nat (x : Int) : ((dd x).toNat : Int) = 48 + x % 10 := by
  have := Int.emod_nonneg x (b := 10) (by decide)
  have := Int.emod_lt_of_pos x (b := 10) (by decide)
  unfold dd
  rw [UInt8.toNat_ofNat']
  omega
theorem dd_dig (x : Int) : isDig (dd x) = true := by
  have h := dd_nat x
  have := Int.emod_nonneg x (b := 10) (by decide)
  have := Int.emod_lt_of_pos x (b := 10) (by decide)
  unfold isDig
  simp only [Bool.and_eq_true, decide_eq_true_eq, UInt8.le_iff_toNat_le]
  constructor
  · show (48 : Nat) ≤ _; omega
  · show _ ≤ (57 : Nat); omega
theorem digits2 {k : Nat} (hk : 4 ≤ k) {x : Int} (h0 : 0 ≤ x) (h1 : x ≤ 1000000) : date_digits.f k x 2 = some ⟨#[dd (x / 10), dd x]⟩ := by
  obtain ⟨k, rfl⟩ : ∃ m, k = m + 3 := ⟨k - 3, by omega⟩
  have e1 : wrap64 (Int.tdiv x 10) = x / 10 := by rw [Int.tdiv_eq_ediv_of_nonneg h0, w64 (by omega)]
  have e2 : wrap64 (Int.tdiv (x / 10) 10) = x / 10 / 10 := by rw [Int.tdiv_eq_ediv_of_nonneg (by omega), w64 (by omega)]
  have m1 : wrap64 (48 + Int.tmod x 10) % 256 = 48 + x % 10 := by rw [Int.tmod_eq_emod_of_nonneg h0, w64 (by omega)]; omega
  have m2 : wrap64 (48 + Int.tmod (x / 10) 10) % 256 = 48 + x / 10 % 10 := by rw [Int.tmod_eq_emod_of_nonneg (by omega), w64 (by omega)]; omega
  have w0 : wrap64 0 = 0 := by decide +kernel
  have w1 : wrap64 1 = 1 := by decide +kernel
  have w2 : wrap64 2 = 2 := by decide +kernel
  have w3 : wrap64 3 = 3 := by decide +kernel
  have wm : wrap64 (-1) = -1 := by decide +kernel
  simp [date_digits.f, date_digits.l0, e1, m1, m2, w0, w1, wm, strOfNums, dd]
theorem digits4 {k : Nat} (hk : 6 ≤ k) {x : Int} (h0 : 0 ≤ x) (h1 : x ≤ 1000000) : date_digits.f k x 4 = some ⟨#[dd (x / 1000), dd (x / 100), dd (x / 10), dd x]⟩ := by
  obtain ⟨k, rfl⟩ : ∃ m, k = m + 5 := ⟨k - 5, by omega⟩
  have e : ∀ y : Int, 0 ≤ y → y ≤ 1000000 → wrap64 (Int.tdiv y 10) = y / 10 := fun y a b => by rw [Int.tdiv_eq_ediv_of_nonneg a, w64 (by omega)]
  have m : ∀ y : Int, 0 ≤ y → y ≤ 1000000 → wrap64 (48 + Int.tmod y 10) % 256 = 48 + y % 10 := fun y a b => by rw [Int.tmod_eq_emod_of_nonneg a, w64 (by omega)]; omega
  have d1 : x / 10 / 10 = x / 100 := by omega
  have d2 : x / 100 / 10 = x / 1000 := by omega
  have w0 : wrap64 0 = 0 := by decide +kernel
  have w1 : wrap64 1 = 1 := by decide +kernel
  have w2 : wrap64 2 = 2 := by decide +kernel
  have w3 : wrap64 3 = 3 := by decide +kernel
  have wm : wrap64 (-1) = -1 := by decide +kernel
  simp [date_digits.f, date_digits.l0, e x h0 h1, e (x / 10) (by omega) (by omega), e (x / 100) (by omega) (by omega), m x h0 h1, m (x / 10) (by omega) (by omega), m (x / 100) (by omega) (by omega), m (x / 1000) (by omega) (by omega), d1, d2, w0, w1, w2, w3, wm, strOfNums, dd]
theorem two_k {x : Int} (h0 : 0 ≤ x) (h1 : x ≤ 1000000) : haversackref09_two.f x = some ⟨#[dd (x / 10), dd x]⟩ := by
  have e1 : wrap64 (Int.tdiv x 10) = x / 10 := by rw [Int.tdiv_eq_ediv_of_nonneg h0, w64 (by omega)]
  have m1 : wrap64 (48 + Int.tmod x 10) % 256 = 48 + x % 10 := by rw [Int.tmod_eq_emod_of_nonneg h0, w64 (by omega)]; omega
  have m2 : wrap64 (48 + Int.tmod (x / 10) 10) % 256 = 48 + x / 10 % 10 := by rw [Int.tmod_eq_emod_of_nonneg (by omega), w64 (by omega)]; omega
  simp [haversackref09_two.f, e1, m1, m2, strOfNums, dd]
/-- A month's letters; a zone; a date's text. -/
def mon (m : Int) : List UInt8 := (monthsL.drop (3 * (m - 1)).toNat).take 3
def zon (z : Int) : List UInt8 := if z < 0 then [45, dd (-z / 60 / 10), dd (-z / 60), dd (-z % 60 / 10), dd (-z % 60)] else [43, dd (z / 60 / 10), dd (z / 60), dd (z % 60 / 10), dd (z % 60)]
def prn (y m d h mi s z : Int) : List UInt8 :=
  ((if d < 10 then [32, dd d] else [dd (d / 10), dd d]) : List UInt8) ++ [45] ++ mon m ++ [45, dd (y / 1000), dd (y / 100), dd (y / 10), dd y, 32, dd (h / 10), dd h, 58, dd (mi / 10), dd mi, 58, dd (s / 10), dd s, 32] ++ zon z
theorem zone_k {k : Nat} (hk : 4 ≤ k) {z : Int} (h : -1439 ≤ z ∧ z ≤ 1439) : date_zone.f k z = some ⟨(zon z).toArray⟩ := by
  unfold date_zone.f zon
  by_cases hz : z < 0
  · have e : wrap64 (-z) = -z := w64 (by omega)
    rw [if_pos hz, if_pos hz, e, Int.tdiv_eq_ediv_of_nonneg (by omega), Int.tmod_eq_emod_of_nonneg (by omega), w64 (by omega), digits2 hk (by omega) (by omega), digits2 hk (by omega) (by omega)]
    simp only [Option.bind_some]
    rw [if_pos (by simp [ByteArray.size]), if_pos (by simp [ByteArray.size])]
    rfl
  · rw [if_neg hz, if_neg hz, Int.tdiv_eq_ediv_of_nonneg (by omega), Int.tmod_eq_emod_of_nonneg (by omega), w64 (by omega), digits2 hk (by omega) (by omega), digits2 hk (by omega) (by omega)]
    simp only [Option.bind_some]
    rw [if_pos (by simp [ByteArray.size]), if_pos (by simp [ByteArray.size])]
    rfl
theorem mon_cut {m : Int} (h1 : 1 ≤ m) (h2 : m ≤ 12) : ∃ a b c, mon m = [a, b, c] ∧ (⟨#[74, 97, 110, 70, 101, 98, 77, 97, 114, 65, 112, 114, 77, 97, 121, 74, 117, 110, 74, 117, 108, 65, 117, 103, 83, 101, 112, 79, 99, 116, 78, 111, 118, 68, 101, 99]⟩ : ByteArray).extract ((wrap64 ((wrap64 (3 * m)) - 3)) : Int).toNat ((wrap64 (3 * m)) : Int).toNat = ⟨#[a, b, c]⟩ ∧ haversackref09_Months.f m = some ⟨#[a, b, c]⟩ := by
  have : m = 1 ∨ m = 2 ∨ m = 3 ∨ m = 4 ∨ m = 5 ∨ m = 6 ∨ m = 7 ∨ m = 8 ∨ m = 9 ∨ m = 10 ∨ m = 11 ∨ m = 12 := by omega
  rcases this with rfl | rfl | rfl | rfl | rfl | rfl | rfl | rfl | rfl | rfl | rfl | rfl <;> exact ⟨_, _, _, rfl, by decide +kernel, by decide +kernel⟩
def prB (y m d h mi s z : Int) : ByteArray := if rgt y m d h mi s z = true then ⟨(prn y m d h mi s z).toArray⟩ else ⟨#[]⟩
theorem rgt_all {y m d h mi s z : Int} (hr : rgt y m d h mi s z = true) : (1 ≤ y ∧ y ≤ 9999) ∧ (1 ≤ m ∧ m ≤ 12) ∧ (1 ≤ d ∧ d ≤ 31) ∧ (0 ≤ h ∧ h ≤ 23) ∧ (0 ≤ mi ∧ mi ≤ 59) ∧ (0 ≤ s ∧ s ≤ 59) ∧ -1439 ≤ z ∧ z ≤ 1439 := by
  unfold rgt at hr
  rw [Bool.and_eq_true] at hr
  have h1 := vld_iff.1 hr.1
  have h2 := clk_iff.1 hr.2
  have h3 := dim_bd y m
  omega
theorem zon_len (z : Int) : (zon z).length = 5 := by unfold zon; split <;> rfl
theorem ba_append (a b : List UInt8) : (⟨a.toArray⟩ : ByteArray) ++ ⟨b.toArray⟩ = ⟨(a ++ b).toArray⟩ := by
  apply ByteArray.ext; simp
theorem print_j {k : Nat} (hk : 8 ≤ k) {y m d h mi s z : Int} (hr : rgt y m d h mi s z = true) (a b : UInt8) :
    date_Print.j0 k ⟨#[a, b]⟩ y m d h mi s z = some ⟨([a, b] ++ [45] ++ mon m ++ [45, dd (y / 1000), dd (y / 100), dd (y / 10), dd y, 32, dd (h / 10), dd h, 58, dd (mi / 10), dd mi, 58, dd (s / 10), dd s, 32] ++ zon z).toArray⟩ := by
  obtain ⟨k, rfl⟩ : ∃ n, k = n + 1 := ⟨k - 1, by omega⟩
  obtain ⟨hy, hm, hd, hh, hmi, hs, hz⟩ := rgt_all hr
  obtain ⟨c1, c2, c3, e1, e2, e3⟩ := mon_cut hm.1 hm.2
  have zl := zon_len z
  have w1 : wrap64 (3 * m) = 3 * m := w64 (by omega)
  have w2 : wrap64 (3 * m - 3) = 3 * m - 3 := w64 (by omega)
  rw [w1, w2] at e2
  simp only [date_Print.j0, digits2 (k := k) (by omega) hh.1 (by omega), digits2 (k := k) (by omega) hmi.1 (by omega), digits2 (k := k) (by omega) hs.1 (by omega), digits4 (k := k) (by omega) (x := y) (by omega) (by omega), zone_k (k := k) (by omega) hz, Option.bind_some, w1, w2, e2, e1]
  simp only [ByteArray.size, List.size_toArray, List.length_cons, List.length_nil, zl, ba_append]
  repeat rw [if_pos (by omega)]
  simp
theorem print_k {k : Nat} (hk : 8 ≤ k) (y m d h mi s z : Int) : date_Print.f k y m d h mi s z = some (prB y m d h mi s z) := by
  unfold date_Print.f prB
  rw [right_k (by omega)]
  simp only [Option.bind_some]
  by_cases hr : rgt y m d h mi s z = true
  · obtain ⟨hy, hm, hd, hh, hmi, hs, hz⟩ := rgt_all hr
    rw [if_pos hr, if_pos hr, digits2 (by omega) (by omega) (by omega)]
    simp only [Option.bind_some]
    unfold prn
    by_cases h10 : d < 10
    · rw [if_pos h10, if_pos h10, if_pos (by simp [ByteArray.size]), if_pos (by simp [ByteArray.size])]
      have e : (⟨#[32]⟩ : ByteArray) ++ ByteArray.extract ⟨#[dd (d / 10), dd d]⟩ 1 (ByteArray.size ⟨#[dd (d / 10), dd d]⟩) = ⟨#[32, dd d]⟩ := by
        apply ByteArray.ext; simp [ByteArray.size]
      rw [e, print_j hk hr]
    · rw [if_neg h10, if_neg h10, print_j hk hr]
  · rw [if_neg hr, if_neg hr]
theorem rprint_j1 {k : Nat} (hk : 3 ≤ k) {y m d h mi s z z' : Int} {c : UInt8} (hr : rgt y m d h mi s z = true) (hz' : 0 ≤ z' ∧ z' ≤ 1439) (e0 : zon z = [c, dd (z' / 60 / 10), dd (z' / 60), dd (z' % 60 / 10), dd (z' % 60)]) (a b : UInt8) :
    haversackref09_Print.j1 k ⟨#[a, b]⟩ z' ⟨#[c]⟩ y m d h mi s z = some ⟨([a, b] ++ [45] ++ mon m ++ [45, dd (y / 1000), dd (y / 100), dd (y / 10), dd y, 32, dd (h / 10), dd h, 58, dd (mi / 10), dd mi, 58, dd (s / 10), dd s, 32] ++ zon z).toArray⟩ := by
  obtain ⟨k, rfl⟩ : ∃ n, k = n + 1 := ⟨k - 1, by omega⟩
  obtain ⟨hy, hm, hd, hh, hmi, hs, hz⟩ := rgt_all hr
  obtain ⟨c1, c2, c3, e1, e2, e3⟩ := mon_cut hm.1 hm.2
  have y1 : wrap64 (Int.tdiv y 100) = y / 100 := by rw [Int.tdiv_eq_ediv_of_nonneg (by omega), w64 (by omega)]
  have z1 : wrap64 (Int.tdiv z' 60) = z' / 60 := by rw [Int.tdiv_eq_ediv_of_nonneg hz'.1, w64 (by omega)]
  have z2 : Int.tmod z' 60 = z' % 60 := Int.tmod_eq_emod_of_nonneg hz'.1
  have y2 : y / 100 / 10 = y / 1000 := by omega
  simp only [haversackref09_Print.j1, two_k hh.1 (by omega), two_k hmi.1 (by omega), two_k hs.1 (by omega), y1, z1, z2, two_k (x := y) (by omega) (by omega), two_k (x := y / 100) (by omega) (by omega), two_k (x := z' / 60) (by omega) (by omega), two_k (x := z' % 60) (by omega) (by omega), Option.bind_some, e3, e1, e0, y2]
  simp only [ByteArray.size, List.size_toArray, List.length_cons, List.length_nil, ba_append]
  repeat rw [if_pos (by omega)]
  simp
theorem rprint_j {k : Nat} (hk : 4 ≤ k) {y m d h mi s z : Int} (hr : rgt y m d h mi s z = true) (a b : UInt8) :
    haversackref09_Print.j0 k ⟨#[a, b]⟩ y m d h mi s z = some ⟨([a, b] ++ [45] ++ mon m ++ [45, dd (y / 1000), dd (y / 100), dd (y / 10), dd y, 32, dd (h / 10), dd h, 58, dd (mi / 10), dd mi, 58, dd (s / 10), dd s, 32] ++ zon z).toArray⟩ := by
  obtain ⟨k, rfl⟩ : ∃ n, k = n + 1 := ⟨k - 1, by omega⟩
  obtain ⟨hy, hm, hd, hh, hmi, hs, hz⟩ := rgt_all hr
  simp only [haversackref09_Print.j0]
  by_cases hn : z < 0
  · rw [if_pos hn, w64 (x := -z) (by omega)]
    exact rprint_j1 (by omega) hr (by omega) (by unfold zon; rw [if_pos hn]) a b
  · rw [if_neg hn]
    exact rprint_j1 (by omega) hr (by omega) (by unfold zon; rw [if_neg hn]) a b
theorem rprint_k {k : Nat} (hk : 8 ≤ k) (y m d h mi s z : Int) : haversackref09_Print.f k y m d h mi s z = some (prB y m d h mi s z) := by
  unfold haversackref09_Print.f prB
  rw [rright_k]
  simp only [Option.bind_some]
  by_cases hr : rgt y m d h mi s z = true
  · obtain ⟨hy, hm, hd, hh, hmi, hs, hz⟩ := rgt_all hr
    rw [if_pos hr, if_pos hr, two_k (by omega) (by omega)]
    simp only [Option.bind_some]
    unfold prn
    by_cases h10 : d < 10
    · rw [if_pos h10, if_pos h10, if_pos (by simp [ByteArray.size]), if_pos (by simp [ByteArray.size])]
      have e : (⟨#[32]⟩ : ByteArray) ++ ByteArray.extract ⟨#[dd (d / 10), dd d]⟩ 1 (ByteArray.size ⟨#[dd (d / 10), dd d]⟩) = ⟨#[32, dd d]⟩ := by
        apply ByteArray.ext; simp [ByteArray.size]
      rw [e, rprint_j (by omega) hr]
    · rw [if_neg h10, if_neg h10, rprint_j (by omega) hr]
  · rw [if_neg hr, if_neg hr]
theorem number2 {a b : UInt8} (ha : isDig a = true) (hb : isDig b = true) (r : List UInt8) : numberL 2 2 (a :: b :: r) = some (10 * ((a.toNat : Int) - 48) + ((b.toNat : Int) - 48), r) := by
  simp [numberL, digs, valL, ha, hb]
theorem number1 {a : UInt8} (ha : isDig a = true) (r : List UInt8) : numberL 1 1 (a :: r) = some ((a.toNat : Int) - 48, r) := by
  simp [numberL, digs, valL, ha]
theorem number4 {a b c d : UInt8} (ha : isDig a = true) (hb : isDig b = true) (hc : isDig c = true) (hd : isDig d = true) (r : List UInt8) :
    numberL 4 4 (a :: b :: c :: d :: r) = some (10 * (10 * (10 * ((a.toNat : Int) - 48) + ((b.toNat : Int) - 48)) + ((c.toNat : Int) - 48)) + ((d.toNat : Int) - 48), r) := by
  simp [numberL, digs, valL, ha, hb, hc, hd]
theorem must1 (a : UInt8) (r : List UInt8) : mustL [a] (a :: r) = some r := by simp [mustL]
theorem mon_read {m : Int} (h1 : 1 ≤ m) (h2 : m ≤ 12) (r : List UInt8) : monthM (mon m ++ r) = some (m, r) := by
  have : m = 1 ∨ m = 2 ∨ m = 3 ∨ m = 4 ∨ m = 5 ∨ m = 6 ∨ m = 7 ∨ m = 8 ∨ m = 9 ∨ m = 10 ∨ m = 11 ∨ m = 12 := by omega
  rcases this with rfl | rfl | rfl | rfl | rfl | rfl | rfl | rfl | rfl | rfl | rfl | rfl <;> rfl
theorem zon_read {z : Int} (h : -1439 ≤ z ∧ z ≤ 1439) : zoneL (zon z) = some (z, []) := by
  unfold zon
  by_cases hz : z < 0
  · have a := dd_nat (-z / 60 / 10)
    have b := dd_nat (-z / 60)
    have c := dd_nat (-z % 60 / 10)
    have d := dd_nat (-z % 60)
    rw [if_pos hz]
    simp only [zoneL]
    rw [if_pos (by decide), number2 (dd_dig _) (dd_dig _)]
    simp only [Option.bind_some]
    rw [number2 (dd_dig _) (dd_dig _)]
    simp only [Option.bind_some]
    rw [if_neg (by omega), if_pos trivial]
    congr 2; omega
  · have a := dd_nat (z / 60 / 10)
    have b := dd_nat (z / 60)
    have c := dd_nat (z % 60 / 10)
    have d := dd_nat (z % 60)
    rw [if_neg hz]
    simp only [zoneL]
    rw [if_pos (by decide), number2 (dd_dig _) (dd_dig _)]
    simp only [Option.bind_some]
    rw [number2 (dd_dig _) (dd_dig _)]
    simp only [Option.bind_some]
    rw [if_neg (by omega), if_neg (by decide)]
    congr 2; omega
theorem internal_prn {y m d h mi s z : Int} (hr : rgt y m d h mi s z = true) : internalL (prn y m d h mi s z) = some (y, m, d, h, mi, s, z) := by
  obtain ⟨hy, hm, hd, hh, hmi, hs, hz⟩ := rgt_all hr
  have key : ∀ (D : Option (Int × List UInt8)), D = some (d, 45 :: (mon m ++ ([45, dd (y / 1000), dd (y / 100), dd (y / 10), dd y, 32, dd (h / 10), dd h, 58, dd (mi / 10), dd mi, 58, dd (s / 10), dd s, 32] ++ zon z))) →
      (D.bind fun d => (mustL [45] d.2).bind fun l2 => (monthM l2).bind fun m => (mustL [45] m.2).bind fun l4 => (numberL 4 4 l4).bind fun y => (mustL [32] y.2).bind fun l6 =>
      (numberL 2 2 l6).bind fun h => (mustL [58] h.2).bind fun l8 => (numberL 2 2 l8).bind fun mi => (mustL [58] mi.2).bind fun l10 => (numberL 2 2 l10).bind fun s =>
      (mustL [32] s.2).bind fun l12 => (zoneL l12).bind fun z => some (y.1, m.1, d.1, h.1, mi.1, s.1, z.1)) = some (y, m, d, h, mi, s, z) := by
    rintro _ rfl
    have n1 := dd_nat (y / 1000)
    have n2 := dd_nat (y / 100)
    have n3 := dd_nat (y / 10)
    have n4 := dd_nat y
    have n5 := dd_nat (h / 10)
    have n6 := dd_nat h
    have n7 := dd_nat (mi / 10)
    have n8 := dd_nat mi
    have n9 := dd_nat (s / 10)
    have n0 := dd_nat s
    simp only [Option.bind_some, must1, mon_read hm.1 hm.2, List.cons_append, List.nil_append, number4 (dd_dig _) (dd_dig _) (dd_dig _) (dd_dig _), number2 (dd_dig _) (dd_dig _), zon_read hz, n1, n2, n3, n4, n5, n6, n7, n8, n9, n0]
    congr 1
    simp only [Prod.mk.injEq]
    refine ⟨by omega, trivial, trivial, by omega, by omega, by omega, trivial⟩
  unfold internalL
  have d1 := dd_nat (d / 10)
  have d2 := dd_nat d
  refine key _ ?_
  unfold prn
  by_cases h10 : d < 10
  · rw [if_pos h10]
    simp only [List.cons_append, List.nil_append, List.append_assoc]
    rw [if_pos (by simp), must1]
    simp only [Option.bind_some]
    rw [number1 (dd_dig _)]
    congr 2; omega
  · rw [if_neg h10]
    simp only [List.cons_append, List.nil_append, List.append_assoc]
    rw [if_neg, number2 (dd_dig _) (dd_dig _)]
    · congr 2; omega
    · have : dd (d / 10) ≠ 32 := fun e => by rw [e] at d1; have : (32 : UInt8).toNat = 32 := rfl; omega
      simp; exact fun e => this e.symm
theorem num_tot (l : List UInt8) (hl : l.length ≤ 100) : ∀ (t k : Nat) (x i : Int), t + 2 ≤ k → 0 ≤ i → i + t = l.length → ∃ v, haversackref09_Number.l0 k ⟨l.toArray⟩ x i = some v := by
  intro t
  induction t with
  | zero =>
    intro k x i hk h0 hi
    obtain ⟨k, rfl⟩ : ∃ n, k = n + 1 := ⟨k - 1, by omega⟩
    simp only [haversackref09_Number.l0, ba_size]
    rw [if_neg (by omega)]
    split
    · exact ⟨_, rfl⟩
    · split <;> exact ⟨_, rfl⟩
  | succ t ih =>
    intro k x i hk h0 hi
    obtain ⟨k, rfl⟩ : ∃ n, k = n + 1 := ⟨k - 1, by omega⟩
    simp only [haversackref09_Number.l0, ba_size]
    rw [if_pos (by omega), if_pos h0]
    split
    · exact ⟨_, rfl⟩
    · split
      · exact ⟨_, rfl⟩
      · rw [w64 (x := i + 1) (by omega)]
        exact ih k _ (i + 1) (by omega) (by omega) (by omega)
theorem num_some {k : Nat} (hk : 110 ≤ k) (l : List UInt8) (hl : l.length ≤ 100) : ∃ v, haversackref09_Number.f k ⟨l.toArray⟩ = some v := num_tot l hl l.length k 0 0 (by omega) (by omega) (by omega)
theorem dig_bt {a : UInt8} (h : isDig a = true) : ¬ (a.toNat : Int) < 48 ∧ ¬ (a.toNat : Int) > 57 := by
  unfold isDig at h
  simp only [Bool.and_eq_true, decide_eq_true_eq, UInt8.le_iff_toNat_le] at h
  have e1 : (48 : UInt8).toNat = 48 := rfl
  have e2 : (57 : UInt8).toNat = 57 := rfl
  omega
theorem rnum2 {k : Nat} (hk : 6 ≤ k) {a b : UInt8} (ha : isDig a = true) (hb : isDig b = true) : haversackref09_Number.f k ⟨#[a, b]⟩ = some (10 * ((a.toNat : Int) - 48) + ((b.toNat : Int) - 48)) := by
  obtain ⟨k, rfl⟩ : ∃ n, k = n + 3 := ⟨k - 3, by omega⟩
  have h1 := dig_bt ha
  have h2 := dig_bt hb
  have b0 : bt ⟨#[a, b]⟩ 0 = a.toNat := rfl
  have b1 : bt ⟨#[a, b]⟩ 1 = b.toNat := rfl
  have w1 : wrap64 (0 + 1) = 1 := by decide +kernel
  have w2 : wrap64 (1 + 1) = 2 := by decide +kernel
  simp only [haversackref09_Number.f, haversackref09_Number.l0, ByteArray.size, List.size_toArray, List.length_cons, List.length_nil, w1, w2, b0, b1]
  rw [if_pos (by omega), if_pos (by omega), if_neg h1.1, if_neg h1.2, if_pos (by omega), if_pos (by omega), if_neg h2.1, if_neg h2.2, if_neg (by omega), if_neg (by omega), if_neg (by omega)]
  rw [w64 (x := (a.toNat : Int)) (by omega), w64 (x := (b.toNat : Int)) (by omega), w64 (x := 10 * 0) (by omega), w64 (x := 10 * 0 + (a.toNat : Int)) (by omega), w64 (x := 10 * 0 + (a.toNat : Int) - 48) (by omega), w64 (x := 10 * (10 * 0 + (a.toNat : Int) - 48)) (by omega), w64 (x := 10 * (10 * 0 + (a.toNat : Int) - 48) + b.toNat) (by omega), w64 (by omega)]
  congr 1; omega
theorem rnum4 {k : Nat} (hk : 6 ≤ k) {a b c d : UInt8} (ha : isDig a = true) (hb : isDig b = true) (hc : isDig c = true) (hd : isDig d = true) : haversackref09_Number.f k ⟨#[a, b, c, d]⟩ = some (10 * (10 * (10 * ((a.toNat : Int) - 48) + ((b.toNat : Int) - 48)) + ((c.toNat : Int) - 48)) + ((d.toNat : Int) - 48)) := by
  obtain ⟨k, rfl⟩ : ∃ n, k = n + 5 := ⟨k - 5, by omega⟩
  have h1 := dig_bt ha
  have h2 := dig_bt hb
  have h3 := dig_bt hc
  have h4 := dig_bt hd
  have b0 : bt ⟨#[a, b, c, d]⟩ 0 = a.toNat := rfl
  have b1 : bt ⟨#[a, b, c, d]⟩ 1 = b.toNat := rfl
  have b2 : bt ⟨#[a, b, c, d]⟩ 2 = c.toNat := rfl
  have b3 : bt ⟨#[a, b, c, d]⟩ 3 = d.toNat := rfl
  have w1 : wrap64 (0 + 1) = 1 := by decide +kernel
  have w2 : wrap64 (1 + 1) = 2 := by decide +kernel
  have w3 : wrap64 (2 + 1) = 3 := by decide +kernel
  have w4 : wrap64 (3 + 1) = 4 := by decide +kernel
  have st : ∀ (n : Int) (q : Nat), 0 ≤ n → n ≤ 100000 → q ≤ 300 → wrap64 (wrap64 (wrap64 (10 * n) + wrap64 (q : Int)) - 48) = 10 * n + ((q : Int) - 48) := fun n q x y z => by
    rw [w64 (x := 10 * n) (by omega), w64 (x := (q : Int)) (by omega), w64 (x := 10 * n + q) (by omega), w64 (by omega)]; omega
  simp only [haversackref09_Number.f, haversackref09_Number.l0, ByteArray.size, List.size_toArray, List.length_cons, List.length_nil, w1, w2, w3, w4, b0, b1, b2, b3]
  rw [if_pos (by omega), if_pos (by omega), if_neg h1.1, if_neg h1.2, st 0 _ (by omega) (by omega) (by omega), if_pos (by omega), if_pos (by omega), if_neg h2.1, if_neg h2.2, st (10 * 0 + ((a.toNat : Int) - 48)) b.toNat (by omega) (by omega) (by omega), if_pos (by omega), if_pos (by omega), if_neg h3.1, if_neg h3.2, st (10 * (10 * 0 + ((a.toNat : Int) - 48)) + ((b.toNat : Int) - 48)) c.toNat (by omega) (by omega) (by omega), if_pos (by omega), if_pos (by omega), if_neg h4.1, if_neg h4.2, st (10 * (10 * (10 * 0 + ((a.toNat : Int) - 48)) + ((b.toNat : Int) - 48)) + ((c.toNat : Int) - 48)) d.toNat (by omega) (by omega) (by omega), if_neg (by omega), if_neg (by omega), if_neg (by omega)]
  congr 1; omega
theorem lower_some (l : List UInt8) (hl : l.length ≤ 1000000) : haversackref09_Lower.f ⟨l.toArray⟩ = some ⟨(lowL l).toArray⟩ := by
  unfold haversackref09_Lower.f
  rw [if_pos (by rw [ba_size]; omega)]
theorem month_tot (l : List UInt8) (hl : l.length ≤ 100) : ∀ (t k : Nat) (x : Int), t + 2 ≤ k → 1 ≤ x → x + t = 13 → ∃ v, haversackref09_Month.l0 k ⟨l.toArray⟩ x = some v := by
  intro t
  induction t with
  | zero =>
    intro k x hk h0 hi
    obtain ⟨k, rfl⟩ : ∃ n, k = n + 1 := ⟨k - 1, by omega⟩
    simp only [haversackref09_Month.l0]
    rw [if_neg (by omega)]
    exact ⟨_, rfl⟩
  | succ t ih =>
    intro k x hk h0 hi
    obtain ⟨k, rfl⟩ : ∃ n, k = n + 1 := ⟨k - 1, by omega⟩
    obtain ⟨a, b, c, _, _, e⟩ := mon_cut (m := x) (by omega) (by omega)
    simp only [haversackref09_Month.l0]
    rw [if_pos (by omega), e]
    simp only [Option.bind_some]
    rw [lower_some [a, b, c] (by simp), lower_some l (by omega)]
    simp only [Option.bind_some]
    split
    · exact ⟨_, rfl⟩
    · rw [w64 (x := x + 1) (by omega)]
      exact ih k (x + 1) (by omega) (by omega) (by omega)
theorem month_some {k : Nat} (hk : 20 ≤ k) (l : List UInt8) (hl : l.length ≤ 100) : ∃ v, haversackref09_Month.f k ⟨l.toArray⟩ = some v := month_tot l hl 12 k 1 (by omega) (by omega) (by omega)
theorem rmon_20 {m : Int} (h1 : 1 ≤ m) (h2 : m ≤ 12) : haversackref09_Month.f 20 ⟨(mon m).toArray⟩ = some m := by
  have : m = 1 ∨ m = 2 ∨ m = 3 ∨ m = 4 ∨ m = 5 ∨ m = 6 ∨ m = 7 ∨ m = 8 ∨ m = 9 ∨ m = 10 ∨ m = 11 ∨ m = 12 := by omega
  rcases this with rfl | rfl | rfl | rfl | rfl | rfl | rfl | rfl | rfl | rfl | rfl | rfl <;> decide +kernel
theorem rmon {k : Nat} (hk : 20 ≤ k) {m : Int} (h1 : 1 ≤ m) (h2 : m ≤ 12) : haversackref09_Month.f k ⟨(mon m).toArray⟩ = some m := at_rounds (fun n => haversackref09_Month.mono _ n) hk (rmon_20 h1 h2)
theorem zone_some {k : Nat} (hk : 120 ≤ k) (l : List UInt8) (hl : l.length = 5) : ∃ z b, haversackref09_Zone.f k ⟨l.toArray⟩ = some (z, b) := by
  obtain ⟨k, rfl⟩ : ∃ n, k = n + 2 := ⟨k - 2, by omega⟩
  have j1 : ∀ x4 x5 x32, ∃ z b, haversackref09_Zone.j1 (k + 1) ⟨l.toArray⟩ x4 x5 x32 = some (z, b) := fun x4 x5 x32 => by
    simp only [haversackref09_Zone.j1, ba_size]
    split
    · exact ⟨_, _, rfl⟩
    · rw [if_pos (by omega)]
      split <;> exact ⟨_, _, rfl⟩
  have j0 : ∀ x, ∃ z b, haversackref09_Zone.j0 (k + 2) ⟨l.toArray⟩ x = some (z, b) := fun x => by
    simp only [haversackref09_Zone.j0, ba_size]
    split
    · exact ⟨_, _, rfl⟩
    · obtain ⟨v1, e1⟩ := num_some (k := k + 1) (by omega) ((l.take 3).drop 1) (by simp; omega)
      obtain ⟨v2, e2⟩ := num_some (k := k + 1) (by omega) ((l.take 5).drop 3) (by simp; omega)
      rw [if_pos (by omega), if_pos (by omega), ba_extract, e1]
      simp only [Option.bind_some]
      rw [if_pos (by omega), if_pos (by omega), ba_extract, e2]
      simp only [Option.bind_some, rin]
      split <;> exact j1 _ _ _
  unfold haversackref09_Zone.f
  rw [ba_size, if_pos (by omega), if_pos (by omega)]
  split <;> exact j0 _
theorem rzon {k : Nat} (hk : 120 ≤ k) {z : Int} (h : -1439 ≤ z ∧ z ≤ 1439) : ∃ b, haversackref09_Zone.f k ⟨(zon z).toArray⟩ = some (z, b) := by
  obtain ⟨k, rfl⟩ : ∃ n, k = n + 2 := ⟨k - 2, by omega⟩
  have key : ∀ (c : UInt8) (q : Int), 0 ≤ q → q ≤ 1439 → ((c = 45 ∧ z = -q) ∨ (c = 43 ∧ z = q)) → ∃ b, haversackref09_Zone.f (k + 2) ⟨#[c, dd (q / 60 / 10), dd (q / 60), dd (q % 60 / 10), dd (q % 60)]⟩ = some (z, b) := by
    intro c q h0 h1 hc
    have n1 := dd_nat (q / 60 / 10)
    have n2 := dd_nat (q / 60)
    have n3 := dd_nat (q % 60 / 10)
    have n4 := dd_nat (q % 60)
    have x1 : ByteArray.extract ⟨#[c, dd (q / 60 / 10), dd (q / 60), dd (q % 60 / 10), dd (q % 60)]⟩ 1 3 = ⟨#[dd (q / 60 / 10), dd (q / 60)]⟩ := ba_extract [c, dd (q / 60 / 10), dd (q / 60), dd (q % 60 / 10), dd (q % 60)] 1 3
    have x2 : ByteArray.extract ⟨#[c, dd (q / 60 / 10), dd (q / 60), dd (q % 60 / 10), dd (q % 60)]⟩ 3 5 = ⟨#[dd (q % 60 / 10), dd (q % 60)]⟩ := ba_extract [c, dd (q / 60 / 10), dd (q / 60), dd (q % 60 / 10), dd (q % 60)] 3 5
    have sz : ByteArray.size ⟨#[c, dd (q / 60 / 10), dd (q / 60), dd (q % 60 / 10), dd (q % 60)]⟩ = 5 := rfl
    have b0 : bt ⟨#[c, dd (q / 60 / 10), dd (q / 60), dd (q % 60 / 10), dd (q % 60)]⟩ 0 = c.toNat := rfl
    have j0 : haversackref09_Zone.j0 (k + 2) ⟨#[c, dd (q / 60 / 10), dd (q / 60), dd (q % 60 / 10), dd (q % 60)]⟩ false = some (z, true) := by
      simp only [haversackref09_Zone.j0, x1, x2, rnum2 (k := k + 1) (by omega) (dd_dig _) (dd_dig _), rin, Option.bind_some, haversackref09_Zone.j1, b0, sz]
      rw [if_neg (by simp), if_pos (by omega), if_pos (by omega), if_pos (by omega), if_pos (by omega), if_pos (by simp; omega), if_neg (by simp; omega), if_pos (by omega)]
      rcases hc with ⟨rfl, hzq⟩ | ⟨rfl, hzq⟩
      · rw [if_pos (by decide), n1, n2, n3, n4, w64 (x := -60 * (10 * (48 + q / 60 / 10 % 10 - 48) + (48 + q / 60 % 10 - 48))) (by omega), w64 (by omega)]; congr 2; omega
      · rw [if_neg (by decide), n1, n2, n3, n4, w64 (x := 60 * (10 * (48 + q / 60 / 10 % 10 - 48) + (48 + q / 60 % 10 - 48))) (by omega), w64 (by omega)]; congr 2; omega
    unfold haversackref09_Zone.f
    rw [sz, if_pos (by omega), if_pos (by omega), b0]
    rcases hc with ⟨rfl, hz⟩ | ⟨rfl, hz⟩
    · rw [if_neg (by decide)]; exact ⟨_, j0⟩
    · rw [if_pos (by decide)]; exact ⟨_, j0⟩
  unfold zon
  by_cases hz : z < 0
  · rw [if_pos hz]; exact key 45 (-z) (by omega) (by omega) (.inl ⟨rfl, by omega⟩)
  · rw [if_neg hz]; exact key 43 z (by omega) (by omega) (.inr ⟨rfl, rfl⟩)
theorem rint_j {k : Nat} (hk : 200 ≤ k) (l : List UInt8) (hl : l.length = 26) (q : List UInt8) (hq : q.length ≤ 100) :
    ∃ y m d h mi s z, haversackref09_Internal.j0 k ⟨l.toArray⟩ ⟨q.toArray⟩ = some (if (prB y m d h mi s z).toList = l then (y, m, d, h, mi, s, z, 0) else (0, 0, 0, 0, 0, 0, 0, 11)) := by
  obtain ⟨k, rfl⟩ : ∃ n, k = n + 1 := ⟨k - 1, by omega⟩
  obtain ⟨z, b, ez⟩ := zone_some (k := k) (by omega) (l.drop 21) (by simp; omega)
  obtain ⟨y, ey⟩ := num_some (k := k) (by omega) ((l.take 11).drop 7) (by simp; omega)
  obtain ⟨m, em⟩ := month_some (k := k) (by omega) ((l.take 6).drop 3) (by simp; omega)
  obtain ⟨d, ed⟩ := num_some (k := k) (by omega) q hq
  obtain ⟨h, eh⟩ := num_some (k := k) (by omega) ((l.take 14).drop 12) (by simp; omega)
  obtain ⟨mi, emi⟩ := num_some (k := k) (by omega) ((l.take 17).drop 15) (by simp; omega)
  obtain ⟨s, es⟩ := num_some (k := k) (by omega) ((l.take 20).drop 18) (by simp; omega)
  have hd := ba_drop l 21
  refine ⟨y, m, d, h, mi, s, z, ?_⟩
  simp only [haversackref09_Internal.j0, ba_size, hd, ba_extract, ez, ey, em, ed, eh, emi, es, rprint_k (k := k) (by omega), Option.bind_some, ba_toList]
  repeat rw [if_pos (by omega)]
  split <;> rfl
/-- What the document's reading is: no date, or the date that it prints. -/
theorem rint_tot {k : Nat} (hk : 200 ≤ k) (l : List UInt8) (hl : l.length = 26) :
    ∃ y m d h mi s z, haversackref09_Internal.f k ⟨l.toArray⟩ = some (if (prB y m d h mi s z).toList = l then (y, m, d, h, mi, s, z, 0) else (0, 0, 0, 0, 0, 0, 0, 11)) := by
  unfold haversackref09_Internal.f
  rw [ba_size, if_pos (by omega), if_pos (by omega), if_pos (by omega), ba_extract]
  simp only [ba_size]
  rw [if_pos (by simp; omega)]
  split
  · rw [if_pos (by simp; omega), if_pos (by simp; omega), ba_extract]
    have e : (⟨#[48]⟩ : ByteArray) ++ (⟨(((l.take 2).drop 0).take ((l.take 2).drop 0).length |>.drop 1).toArray⟩ : ByteArray) = ⟨(48 :: (((l.take 2).drop 0).take ((l.take 2).drop 0).length |>.drop 1)).toArray⟩ := ba_append [48] _
    rw [e]
    exact rint_j hk l hl _ (by simp; omega)
  · exact rint_j hk l hl _ (by simp; omega)
theorem rint_val {k : Nat} (hk : 200 ≤ k) {y m d h mi s z : Int} (hr : rgt y m d h mi s z = true) : haversackref09_Internal.f k ⟨(prn y m d h mi s z).toArray⟩ = some (y, m, d, h, mi, s, z, 0) := by
  obtain ⟨hy, hm, hd, hh, hmi, hs, hz⟩ := rgt_all hr
  obtain ⟨k, rfl⟩ : ∃ n, k = n + 1 := ⟨k - 1, by omega⟩
  obtain ⟨c1, c2, c3, e1, _, _⟩ := mon_cut hm.1 hm.2
  obtain ⟨g, z1, z2, z3, z4, e2⟩ : ∃ g z1 z2 z3 z4, zon z = [g, z1, z2, z3, z4] := by unfold zon; split <;> exact ⟨_, _, _, _, _, rfl⟩
  have em := rmon (k := k) (by omega) hm.1 hm.2
  obtain ⟨zb, ez⟩ := rzon (k := k) (by omega) hz
  have n1 := dd_nat (y / 1000)
  have n2 := dd_nat (y / 100)
  have n3 := dd_nat (y / 10)
  have n4 := dd_nat y
  have n5 := dd_nat (h / 10)
  have n6 := dd_nat h
  have n7 := dd_nat (mi / 10)
  have n8 := dd_nat mi
  have n9 := dd_nat (s / 10)
  have n0 := dd_nat s
  have d1 := dd_nat (d / 10)
  have d2 := dd_nat d
  have ey := rnum4 (k := k) (by omega) (dd_dig (y / 1000)) (dd_dig (y / 100)) (dd_dig (y / 10)) (dd_dig y)
  have eh := rnum2 (k := k) (by omega) (dd_dig (h / 10)) (dd_dig h)
  have emi := rnum2 (k := k) (by omega) (dd_dig (mi / 10)) (dd_dig mi)
  have es := rnum2 (k := k) (by omega) (dd_dig (s / 10)) (dd_dig s)
  have pr : (prB y m d h mi s z).toList = prn y m d h mi s z := by unfold prB; rw [if_pos hr, ba_toList]
  rw [n1, n2, n3, n4] at ey
  rw [n5, n6] at eh
  rw [n7, n8] at emi
  rw [n9, n0] at es
  have key : ∀ (a b : UInt8) (q : ByteArray), prn y m d h mi s z = [a, b, 45, c1, c2, c3, 45, dd (y / 1000), dd (y / 100), dd (y / 10), dd y, 32, dd (h / 10), dd h, 58, dd (mi / 10), dd mi, 58, dd (s / 10), dd s, 32, g, z1, z2, z3, z4] → haversackref09_Number.f k q = some d →
      haversackref09_Internal.j0 (k + 1) ⟨(prn y m d h mi s z).toArray⟩ q = some (y, m, d, h, mi, s, z, 0) := by
    intro a b q e ed
    rw [e1] at em
    rw [e2] at ez
    rw [e] at pr
    rw [e]
    have hd := ba_drop [a, b, 45, c1, c2, c3, 45, dd (y / 1000), dd (y / 100), dd (y / 10), dd y, 32, dd (h / 10), dd h, 58, dd (mi / 10), dd mi, 58, dd (s / 10), dd s, 32, g, z1, z2, z3, z4] 21
    simp only [haversackref09_Internal.j0, ba_size, hd, ba_extract, rprint_k (k := k) (by omega), ba_toList, pr]
    simp only [List.take_succ_cons, List.take_zero, List.drop_succ_cons, List.drop_zero, List.length_cons, List.length_nil, ez, ey, em, ed, eh, emi, es, Option.bind_some]
    repeat rw [if_pos (by omega)]
    have f1 : 10 * (10 * (10 * (48 + y / 1000 % 10 - 48) + (48 + y / 100 % 10 - 48)) + (48 + y / 10 % 10 - 48)) + (48 + y % 10 - 48) = y := by omega
    have f2 : 10 * (48 + h / 10 % 10 - 48) + (48 + h % 10 - 48) = h := by omega
    have f3 : 10 * (48 + mi / 10 % 10 - 48) + (48 + mi % 10 - 48) = mi := by omega
    have f4 : 10 * (48 + s / 10 % 10 - 48) + (48 + s % 10 - 48) = s := by omega
    rw [f1, f2, f3, f4, pr, if_pos rfl]
  unfold haversackref09_Internal.f
  by_cases h10 : d < 10
  · have e : prn y m d h mi s z = [32, dd d, 45, c1, c2, c3, 45, dd (y / 1000), dd (y / 100), dd (y / 10), dd y, 32, dd (h / 10), dd h, 58, dd (mi / 10), dd mi, 58, dd (s / 10), dd s, 32, g, z1, z2, z3, z4] := by
      unfold prn; rw [if_pos h10, e1, e2]; rfl
    have hn : haversackref09_Number.f k ⟨#[48, dd d]⟩ = some d := by
      rw [rnum2 (by omega) (by decide) (dd_dig d), d2]
      congr 1
      have : ((48 : UInt8).toNat : Int) = 48 := rfl
      omega
    have := key 32 (dd d) ⟨#[48, dd d]⟩ e hn
    rw [e] at this ⊢
    rw [ba_size, if_pos (by simp), if_pos (by omega), if_pos (by simp), ba_extract, if_pos (by simp [ba_size]), if_pos (by rfl), if_pos (by simp [ba_size]), if_pos (by simp [ba_size]), ba_size, ba_extract]
    exact this
  · have e : prn y m d h mi s z = [dd (d / 10), dd d, 45, c1, c2, c3, 45, dd (y / 1000), dd (y / 100), dd (y / 10), dd y, 32, dd (h / 10), dd h, 58, dd (mi / 10), dd mi, 58, dd (s / 10), dd s, 32, g, z1, z2, z3, z4] := by
      unfold prn; rw [if_neg h10, e1, e2]; rfl
    have hn : haversackref09_Number.f k ⟨#[dd (d / 10), dd d]⟩ = some d := by
      rw [rnum2 (by omega) (dd_dig _) (dd_dig d), d1, d2]
      congr 1
      omega
    have := key (dd (d / 10)) (dd d) ⟨#[dd (d / 10), dd d]⟩ e hn
    have nb : bt ⟨#[dd (d / 10), dd d]⟩ 0 ≠ 32 := by
      have : bt ⟨#[dd (d / 10), dd d]⟩ 0 = (dd (d / 10)).toNat := rfl
      omega
    rw [e] at this ⊢
    rw [ba_size, if_pos (by simp), if_pos (by omega), if_pos (by simp), ba_extract, if_pos (by simp [ba_size])]
    have nb' : ¬ bt ⟨(List.drop 0 (List.take 2 [dd (d / 10), dd d, 45, c1, c2, c3, 45, dd (y / 1000), dd (y / 100), dd (y / 10), dd y, 32, dd (h / 10), dd h, 58, dd (mi / 10), dd mi, 58, dd (s / 10), dd s, 32, g, z1, z2, z3, z4])).toArray⟩ 0 = 32 := nb
    rw [if_neg nb']
    exact this
end Go.Proofs.Ytooknjpdflokkaa.Pure
