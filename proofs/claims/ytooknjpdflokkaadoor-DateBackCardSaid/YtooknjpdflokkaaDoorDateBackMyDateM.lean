/- YtooknjpdflokkaaDoorMyDateM, as far as DateBack needs it (prune.py). -/
import Derived.Test.YtooknjpdflokkaaDoorDateBackPPx9
import Derived.Test.YtooknjpdflokkaaDoorDateBackPPx9
import Derived.Test.YtooknjpdflokkaaDoorDateBackPPx11
import Derived.Test.YtooknjpdflokkaaDoorDateBackMyDateC
import Derived.Test.YtooknjpdflokkaaDoorDateBackMyDateP
namespace Go.Proofs.YtooknjpdflokkaaDoor.Pure
open Go.RowKit Go.Proofs.YtooknjpdflokkaaDoor.PP Go.Proofs.YtooknjpdflokkaaDoor.My Go.Proofs.YtooknjpdflokkaaDoorW.PrintWords Go.Proofs.YtooknjpdflokkaaDoorW.PrintLast
set_option linter.unusedVariables false
set_option linter.unusedSimpArgs false
theorem at_unix {k : Nat} (hk : 100 ≤ k) {y m d h mi s z : Int} (hr : rgt y m d h mi s z = true) : date_At.f k (unx y m d h mi s z) z = some (y, m, d, h, mi, s, z) := by
  obtain ⟨hv, hc⟩ := rgt_vld hr
  have hc := clk_iff.1 hc
  have hy := vld_iff.1 hv
  have hb := num_bd hv
  have e : unx y m d h mi s z = num y m d * 86400 + h * 3600 + mi * 60 + s - z * 60 := by unfold unx; rw [if_pos hr]
  have e1 : (unx y m d h mi s z + z * 60) / 86400 = num y m d := by omega
  have e2 : (unx y m d h mi s z + z * 60) % 86400 = h * 3600 + mi * 60 + s := by omega
  have hbB : atB (unx y m d h mi s z) z = true := by unfold atB; rw [decide_eq_true_iff]; omega
  unfold date_At.f
  rw [if_pos hbB, e1, e2]
  rcases civil_k (k := k) (by omega) (num y m d) (by omega) with ⟨hx, hcv⟩ | ⟨hx, hx', y', m', d', hcv, hv', hn'⟩
  · omega
  · obtain ⟨rfl, rfl, rfl⟩ := num_inj hv' hv hn'
    rw [hcv]
    simp only [Option.map_some]
    rw [if_neg (by omega)]
    have a1 : (h * 3600 + mi * 60 + s) / 3600 = h := by omega
    have a2 : (h * 3600 + mi * 60 + s) / 60 % 60 = mi := by omega
    have a3 : (h * 3600 + mi * 60 + s) % 60 = s := by omega
    rw [a1, a2, a3]
/-- The two signs ahead of the year as blanks. -/
def bln : Nat → List UInt8 → List UInt8
  | _, [] => []
  | i, c :: r => (if c = 45 ∧ i < 8 then 32 else c) :: bln (i + 1) r
theorem dd_bd (x : Int) : 48 ≤ (dd x).toNat ∧ (dd x).toNat ≤ 57 := by
  have h := dd_nat x
  have := Int.emod_nonneg x (b := 10) (by decide)
  have := Int.emod_lt_of_pos x (b := 10) (by decide)
  omega
theorem lowC_dd (x : Int) : lowC (dd x) = dd x := by
  have h := dd_bd x
  unfold lowC
  rw [if_neg]
  rintro ⟨a, b⟩
  rw [UInt8.le_iff_toNat_le] at a
  have e : (65 : UInt8).toNat = 65 := rfl
  omega
theorem name_dd (x : Int) (r : List UInt8) : nameL weekdaysL (dd x :: r) = none := by
  refine nameL_none (m := 7) rfl (fun j hj => ?_)
  have : j = 0 ∨ j = 1 ∨ j = 2 ∨ j = 3 ∨ j = 4 ∨ j = 5 ∨ j = 6 := by omega
  rcases this with rfl | rfl | rfl | rfl | rfl | rfl | rfl <;> (simp [nameP, lowL, weekdaysL, lowC_dd]; intro e; have h := dd_bd x; rw [e] at h; exact absurd h (by decide))
theorem bl_dd (x : Int) (r : List UInt8) : blanksL (dd x :: r) = dd x :: r := by
  have h := dd_bd x
  unfold blanksL
  rw [List.dropWhile_cons_of_neg]
  unfold isBl
  simp only [List.contains_cons, List.contains_nil, Bool.or_false, Bool.or_eq_true, beq_iff_eq]
  rintro (e | e | e | e) <;> (rw [e] at h; revert h; decide)
theorem gap_dd (x : Int) (r : List UInt8) : gapL (32 :: dd x :: r) = some (dd x :: r) := by
  have e : blanksL (32 :: dd x :: r) = dd x :: r := by
    have := bl_dd x r
    unfold blanksL at this ⊢
    rw [List.dropWhile_cons_of_pos (by decide), this]
  unfold gapL
  rw [e, if_pos (by simp)]
theorem mon_let {m : Int} (h1 : 1 ≤ m) (h2 : m ≤ 12) : ∃ a b c, mon m = [a, b, c] ∧ a ≠ 45 ∧ b ≠ 45 ∧ c ≠ 45 ∧ (∀ r, gapL (32 :: a :: b :: c :: r) = some (a :: b :: c :: r)) := by
  have : m = 1 ∨ m = 2 ∨ m = 3 ∨ m = 4 ∨ m = 5 ∨ m = 6 ∨ m = 7 ∨ m = 8 ∨ m = 9 ∨ m = 10 ∨ m = 11 ∨ m = 12 := by omega
  have key : ∀ (a b c : UInt8) (r : List UInt8), isBl a = false → gapL (32 :: a :: b :: c :: r) = some (a :: b :: c :: r) := by
    intro a b c r ha
    have e : blanksL (32 :: a :: b :: c :: r) = a :: b :: c :: r := by
      unfold blanksL
      rw [List.dropWhile_cons_of_pos (by decide), List.dropWhile_cons_of_neg (by rw [ha]; decide)]
    unfold gapL
    rw [e, if_pos (by simp)]
  rcases this with rfl | rfl | rfl | rfl | rfl | rfl | rfl | rfl | rfl | rfl | rfl | rfl <;> exact ⟨_, _, _, rfl, by decide, by decide, by decide, fun r => key _ _ _ r (by decide)⟩
theorem dd_ne (x : Int) : dd x ≠ 45 := fun e => by have h := dd_bd x; rw [e] at h; exact absurd h (by decide)
theorem number12_2 {a b : UInt8} (ha : isDig a = true) (hb : isDig b = true) (r : List UInt8) : numberL 1 2 (a :: b :: r) = some (10 * ((a.toNat : Int) - 48) + ((b.toNat : Int) - 48), r) := by
  simp [numberL, digs, valL, ha, hb]
theorem number12_1 {a b : UInt8} (ha : isDig a = true) (hb : isDig b = false) (r : List UInt8) : numberL 1 2 (a :: b :: r) = some ((a.toNat : Int) - 48, b :: r) := by
  simp [numberL, digs, valL, ha, hb]
theorem low_zon (z : Int) : [103, 109, 116].isPrefixOf (lowL (zon z)) = false ∧ [117, 116].isPrefixOf (lowL (zon z)) = false := by
  unfold zon
  split <;> exact ⟨rfl, rfl⟩
theorem zon_ne (z : Int) : ∃ c r, zon z = c :: r ∧ isBl c = false := by
  unfold zon
  split <;> exact ⟨_, _, rfl, by decide⟩
theorem mail_bln {y m d h mi s z : Int} (hr : rgt y m d h mi s z = true) : mailL (bln 0 (prn y m d h mi s z)) = some (y, m, d, h, mi, s, z) := by
  obtain ⟨hy, hm, hd, hh, hmi, hs, hz⟩ := rgt_all hr
  obtain ⟨c1, c2, c3, e1, l1, l2, l3, gm⟩ := mon_let hm.1 hm.2
  obtain ⟨zc, zr, ez, zb⟩ := zon_ne z
  have n1 := dd_nat (y / 1000)
  have n2 := dd_nat (y / 100)
  have n3 := dd_nat (y / 10)
  have n4 := dd_nat y
  have n5 := dd_nat (h / 10)
  have n6 := dd_nat h
  have n7 := dd_nat (mi / 10)
  have n8 := dd_nat mi
  have n9 := dd_nat (s / 10)
  have n0 := dd_nat s
  have d1 := dd_nat (d / 10)
  have d2 := dd_nat d
  have hzr := zon_read hz
  have hlz := low_zon z
  rw [ez] at hzr hlz
  have gz : gapL (32 :: zc :: zr) = some (zc :: zr) := by
    have e : blanksL (32 :: zc :: zr) = zc :: zr := by
      unfold blanksL
      rw [List.dropWhile_cons_of_pos (by decide), List.dropWhile_cons_of_neg (by rw [zb]; decide)]
    unfold gapL
    rw [e, if_pos (by simp)]
  have hmz : mailZ (zc :: zr) = some (z, []) := by
    unfold mailZ
    rw [if_neg (by rw [hlz.1]; decide), if_neg (by rw [hlz.2]; decide)]
    exact hzr
  have hmr := mon_read hm.1 hm.2
  rw [e1] at hmr
  have b0 : blanksL ([] : List UInt8) = [] := rfl
  have ms : mailS (58 :: dd (s / 10) :: dd s :: 32 :: zc :: zr) = some (10 * (((dd (s / 10)).toNat : Int) - 48) + (((dd s).toNat : Int) - 48), 32 :: zc :: zr) := by
    unfold mailS
    rw [if_pos (by simp), must1]
    simp only [Option.bind_some]
    rw [number2 (dd_dig _) (dd_dig _)]
  have bz : ∀ i, 8 ≤ i → ∀ l, bln i l = l := by
    intro i hi l
    induction l generalizing i with
    | nil => rfl
    | cons c r ih => unfold bln; rw [if_neg (by omega), ih (i + 1) (by omega)]
  have tail : ∀ D r0, D = some (d, r0) → r0 = 32 :: c1 :: c2 :: c3 :: 32 :: dd (y / 1000) :: dd (y / 100) :: dd (y / 10) :: dd y :: 32 :: dd (h / 10) :: dd h :: 58 :: dd (mi / 10) :: dd mi :: 58 :: dd (s / 10) :: dd s :: 32 :: zc :: zr →
      (D.bind fun d => (gapL d.2).bind fun l2 => (monthM l2).bind fun m => (gapL m.2).bind fun l4 => (numberL 4 4 l4).bind fun y => (gapL y.2).bind fun l6 =>
      (numberL 2 2 l6).bind fun h => (mustL [58] h.2).bind fun l8 => (numberL 2 2 l8).bind fun mi => (mailS mi.2).bind fun s => (gapL s.2).bind fun l12 => (mailZ l12).bind fun z =>
      (if blanksL z.2 = [] then some () else none).bind fun _ => some (y.1, m.1, d.1, h.1, mi.1, s.1, z.1)) = some (y, m, d, h, mi, s, z) := by
    rintro _ _ rfl rfl
    have hm2 : monthM (c1 :: c2 :: c3 :: 32 :: dd (y / 1000) :: dd (y / 100) :: dd (y / 10) :: dd y :: 32 :: dd (h / 10) :: dd h :: 58 :: dd (mi / 10) :: dd mi :: 58 :: dd (s / 10) :: dd s :: 32 :: zc :: zr) = some (m, _) := hmr _
    simp only [Option.bind_some, gm, hm2, gap_dd, number4 (dd_dig _) (dd_dig _) (dd_dig _) (dd_dig _), number2 (dd_dig _) (dd_dig _), must1, ms, gz, hmz, b0, if_true]
    congr 1
    simp only [Prod.mk.injEq]
    refine ⟨by omega, trivial, trivial, by omega, by omega, by omega, trivial⟩
  unfold prn
  rw [e1, ez]
  by_cases h10 : d < 10
  · rw [if_pos h10]
    have e : bln 0 ([32, dd d] ++ [45] ++ [c1, c2, c3] ++ [45, dd (y / 1000), dd (y / 100), dd (y / 10), dd y, 32, dd (h / 10), dd h, 58, dd (mi / 10), dd mi, 58, dd (s / 10), dd s, 32] ++ zc :: zr) = 32 :: dd d :: 32 :: c1 :: c2 :: c3 :: 32 :: dd (y / 1000) :: dd (y / 100) :: dd (y / 10) :: dd y :: 32 :: dd (h / 10) :: dd h :: 58 :: dd (mi / 10) :: dd mi :: 58 :: dd (s / 10) :: dd s :: 32 :: zc :: zr := by
      simp [bln, l1, l2, l3, dd_ne, bz]
    rw [e]
    have eb : blanksL (32 :: dd d :: 32 :: c1 :: c2 :: c3 :: 32 :: dd (y / 1000) :: dd (y / 100) :: dd (y / 10) :: dd y :: 32 :: dd (h / 10) :: dd h :: 58 :: dd (mi / 10) :: dd mi :: 58 :: dd (s / 10) :: dd s :: 32 :: zc :: zr) = dd d :: 32 :: c1 :: c2 :: c3 :: 32 :: dd (y / 1000) :: dd (y / 100) :: dd (y / 10) :: dd y :: 32 :: dd (h / 10) :: dd h :: 58 :: dd (mi / 10) :: dd mi :: 58 :: dd (s / 10) :: dd s :: 32 :: zc :: zr := by
      have := bl_dd d (32 :: c1 :: c2 :: c3 :: 32 :: dd (y / 1000) :: dd (y / 100) :: dd (y / 10) :: dd y :: 32 :: dd (h / 10) :: dd h :: 58 :: dd (mi / 10) :: dd mi :: 58 :: dd (s / 10) :: dd s :: 32 :: zc :: zr)
      unfold blanksL at this ⊢
      rw [List.dropWhile_cons_of_pos (by decide), this]
    unfold mailL
    rw [eb, name_dd]
    unfold mailT
    refine tail _ _ ?_ rfl
    rw [number12_1 (dd_dig d) (by decide)]
    congr 2; omega
  · rw [if_neg h10]
    have e : bln 0 ([dd (d / 10), dd d] ++ [45] ++ [c1, c2, c3] ++ [45, dd (y / 1000), dd (y / 100), dd (y / 10), dd y, 32, dd (h / 10), dd h, 58, dd (mi / 10), dd mi, 58, dd (s / 10), dd s, 32] ++ zc :: zr) = dd (d / 10) :: dd d :: 32 :: c1 :: c2 :: c3 :: 32 :: dd (y / 1000) :: dd (y / 100) :: dd (y / 10) :: dd y :: 32 :: dd (h / 10) :: dd h :: 58 :: dd (mi / 10) :: dd mi :: 58 :: dd (s / 10) :: dd s :: 32 :: zc :: zr := by
      simp [bln, l1, l2, l3, dd_ne, bz]
    rw [e]
    unfold mailL
    rw [bl_dd, name_dd]
    unfold mailT
    refine tail _ _ ?_ rfl
    rw [number12_2 (dd_dig _) (dd_dig d)]
    congr 2; omega
end Go.Proofs.YtooknjpdflokkaaDoor.Pure
