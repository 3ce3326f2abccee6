/-
  names: what all its laws ask (alive), Under and Moved over lists.
-/
import Derived.Test.YtnkibbfpmhgeaaaDoorPPx7
namespace Go.Proofs.YtnkibbfpmhgeaaaDoor.Pure
open Go.RowKit Go.Proofs.YtnkibbfpmhgeaaaDoor.PP Go.Proofs.YtnkibbfpmhgeaaaDoor.My Go.Proofs.YtnkibbfpmhgeaaaDoorW.PrintWords Go.Proofs.YtnkibbfpmhgeaaaDoorW.PrintLast
set_option linter.unusedVariables false
set_option linter.unusedSimpArgs false
theorem at_rounds {α : Type} {f : Nat → Option α} (hm : ∀ k, LeO (f k) (f (k + 1))) {k0 k : Nat} (hk : k0 ≤ k) {v : α} (h : f k0 = some v) : f k = some v := by
  obtain ⟨d, rfl⟩ : ∃ d, k = k0 + d := ⟨k - k0, by omega⟩
  clear hk
  induction d with
  | zero => exact h
  | succ d ih => exact hm _ _ ih
set_option maxRecDepth 100000 in
theorem alive_60 : haversacklaw07_alive.f 60 = some true := by decide +kernel
theorem alive_k {k : Nat} (hk : 60 ≤ k) : haversacklaw07_alive.f k = some true := at_rounds haversacklaw07_alive.mono hk alive_60
theorem ba_list (a : ByteArray) : a = ⟨a.data.toList.toArray⟩ := by cases a; simp
theorem ba_toList (l : List UInt8) : (⟨l.toArray⟩ : ByteArray).toList = l := by rw [ByteArray.toList_eq]
theorem ba_size (l : List UInt8) : (⟨l.toArray⟩ : ByteArray).size = l.length := by simp [ByteArray.size]
theorem ba_ext {a b : ByteArray} (h : a.data.toList = b.data.toList) : a = b := ByteArray.ext (Array.toList_inj.1 h)
theorem ba_app (l m : List UInt8) : (⟨l.toArray⟩ : ByteArray) ++ ⟨m.toArray⟩ = ⟨(l ++ m).toArray⟩ := by apply ba_ext; simp
theorem ba_cut (l : List UInt8) (i j : Nat) : (⟨l.toArray⟩ : ByteArray).extract i j = ⟨((l.drop i).take (j - i)).toArray⟩ := by apply ba_ext; simp [List.extract_eq_take_drop]
def isUnder (l m : List UInt8) : Bool := (m ++ [47]).isPrefixOf l
theorem hasPrefix_f (l m : List UInt8) : strings_HasPrefix.f ⟨l.toArray⟩ ⟨m.toArray⟩ = some (m.isPrefixOf l) := by
  unfold strings_HasPrefix.f stringslite_HasPrefix.f
  simp only [ba_size, ba_toList, ba_cut, Int.toNat_natCast, Nat.sub_zero, List.drop_zero]
  by_cases h : m.length ≤ l.length
  · rw [if_pos (by omega), if_pos (by omega), if_pos (by omega)]
    simp only [Option.bind_some, Option.some.injEq]
    rw [Bool.eq_iff_iff, List.isPrefixOf_iff_prefix, List.prefix_iff_eq_take]
    simp only [beq_iff_eq]
    exact ⟨fun h => h.symm, fun h => h.symm⟩
  · rw [if_neg (by omega)]
    simp only [Option.bind_some, Option.some.injEq]
    symm
    rw [← Bool.not_eq_true, List.isPrefixOf_iff_prefix]
    intro hp
    exact h hp.length_le
theorem under_f (l m : List UInt8) (h : m.length ≤ 140737488351232) : names_Under.f ⟨l.toArray⟩ ⟨m.toArray⟩ = some (isUnder l m) := by
  unfold names_Under.f
  rw [ba_size, if_pos (by omega)]
  rw [show (⟨#[47]⟩ : ByteArray) = ⟨[47].toArray⟩ from rfl, ba_app, hasPrefix_f]
  rfl
def movedL (l m t : List UInt8) : List UInt8 × Bool := if l = m then (t, true) else if isUnder l m = true then (t ++ l.drop m.length, true) else (l, false)
theorem under_le {l m : List UInt8} (h : isUnder l m = true) : ∃ s, l = m ++ 47 :: s := by
  unfold isUnder at h
  rw [List.isPrefixOf_iff_prefix] at h
  obtain ⟨s, rfl⟩ := h
  exact ⟨s, by simp⟩
theorem under_app (m s : List UInt8) : isUnder (m ++ 47 :: s) m = true := by
  unfold isUnder
  rw [List.isPrefixOf_iff_prefix]
  exact ⟨s, by simp⟩
theorem moved_f (l m t : List UInt8) (h1 : l.length ≤ 1000000000) (h2 : m.length ≤ 1000000000) (h3 : t.length ≤ 1000000000) :
    names_Moved.f ⟨l.toArray⟩ ⟨m.toArray⟩ ⟨t.toArray⟩ = some (⟨(movedL l m t).1.toArray⟩, (movedL l m t).2) := by
  unfold names_Moved.f movedL
  simp only [ba_size, ba_toList, ba_cut, Int.toNat_natCast, ba_app]
  rw [under_f l m (by omega)]
  by_cases e : l = m
  · subst e
    rw [if_pos rfl, if_pos (by omega), if_pos (by omega), if_pos (by omega), if_pos rfl]
    simp
  · rw [if_neg e, if_neg e]
    simp only [Option.bind_some]
    by_cases u : isUnder l m = true
    · obtain ⟨s, hs⟩ := under_le u
      have hl : m.length ≤ l.length := by rw [hs]; simp
      rw [if_pos u, if_pos u, if_pos (by omega), if_pos (by omega), if_pos (by omega), List.take_of_length_le (by simp)]
    · rw [if_neg u, if_neg u]
end Go.Proofs.YtnkibbfpmhgeaaaDoor.Pure
