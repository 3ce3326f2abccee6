-- PRINTED by print.py (a twelfth state) out of the translation. Not trusted: Lean checks it.
import Derived.Test.YtkngjdhggcaonaaDoorPPx0
namespace Go.Proofs.YtkngjdhggcaonaaDoor.PP
open Go.RowKit Go.Proofs.YtkngjdhggcaonaaDoorW.PrintWords Go.Proofs.YtkngjdhggcaonaaDoorW.PrintLast Go.Proofs.YtkngjdhggcaonaaDoorW.PrintMore
attribute [local go_sem] max2_int min2_int max_two min_two max_three min_three max_four min_four   -- for this text's walks alone
open Go.Proofs.YtkngjdhggcaonaaDoor.My
set_option linter.unusedVariables false
set_option linter.unusedSimpArgs false

/-! ### strings_Cut: function 79 -/
def strings_Cut.f (a0 a1 : ByteArray) : Option (ByteArray × ByteArray × Bool) :=
 if a1.size = 1 then (if a0.size ≤ 4611686018427387903 then
  (if 0 ≤ Lib.indexByte a0.data.toList (a1.data.toList.getD 0 0) then some (a0.extract 0 (Lib.indexByte a0.data.toList (a1.data.toList.getD 0 0)).toNat, a0.extract ((Lib.indexByte a0.data.toList (a1.data.toList.getD 0 0)).toNat + 1) a0.size, true) else some (a0, ⟨#[]⟩, false)) else none) else none
theorem liteCut_ok (s : ByteArray) (c : UInt8) (w : World) (hs : s.size ≤ 4611686018427387903) :
  Calls Tryd.prog 92 #[.string s, .string ⟨#[c]⟩] w fun e w' => (if 0 ≤ Lib.indexByte s.data.toList c then e = .returned (.tuple #[.string (s.extract 0 (Lib.indexByte s.data.toList c).toNat), .string (s.extract ((Lib.indexByte s.data.toList c).toNat + 1) s.size), .bool true]) else e = .returned (.tuple #[.string s, .string ⟨#[]⟩, .bool false])) ∧ Drawn0 w w' := by
 obtain ⟨ix, hix⟩ : ∃ ix, ix = Lib.indexByte s.data.toList c := ⟨_, rfl⟩
 have HL := fun W => liteIndexOne_any s c W
 rw [← hix] at HL ⊢
 have hsz : s.data.toList.length = s.size := by simp
 by_cases hp : 0 ≤ ix
 ·
  obtain ⟨o, rfl⟩ : ∃ o : Nat, ix = o := ⟨ix.toNat, by omega⟩
  have ho : o < s.size := by
   have h1 := (Lib.indexByte_some hix.symm).1
   obtain ⟨h2, _⟩ := List.getElem?_eq_some_iff.1 h1
   omega
  have g0 : (0 : Int) ≤ (o : Int) := by omega
  have g1 : decide ((0 : Int) ≤ (o : Int)) = true := decide_eq_true g0
  have g2 : (o : Int) ≤ (s.size : Int) := by omega
  have g3 : (0 : Int) ≤ (o : Int) + 1 := by omega
  have g4 : (o : Int) + 1 ≤ (s.size : Int) := by omega
  simp only [if_pos g0]
  clear hix hsz
  go_enter Tryd.func92, Tryd.ntmps92
  go_wp2_with fail
  refine (HL _).mono ?_
  rintro e w3 ⟨rfl, hw3⟩
  have hw4 := hw3.symm
  subst hw4
  go_upto_region 3 with (fail)
  go_quiet (fail)
  go_wp2_with fail
  refine bodyPost_ret (v := .tuple #[.string (s.extract 0 o), .string (s.extract (o + 1) s.size), .bool true]) (by simp [results, Tryd.results92, go_sem]) rfl ⟨?_, ⟨_, rfl⟩⟩
  simp
 ·
  have g1 : decide ((0 : Int) ≤ ix) = false := decide_eq_false hp
  simp only [if_neg hp]
  clear hix hsz
  go_enter Tryd.func92, Tryd.ntmps92
  go_wp2_with fail
  refine (HL _).mono ?_
  rintro e w3 ⟨rfl, hw3⟩
  have hw4 := hw3.symm
  subst hw4
  go_wp2_with fail
  refine bodyPost_ret (v := .tuple #[.string s, .string ⟨#[]⟩, .bool false]) (by simp [results, Tryd.results92, go_sem]) rfl ⟨?_, ⟨0, rfl⟩⟩
  simp
theorem strings_Cut.calls (a0 a1 : ByteArray) (r1 r2 : ByteArray) (r3 : Bool) (w : World) (h : strings_Cut.f a0 a1 = some (r1, r2, r3)) :
  Calls Tryd.prog 79 #[.string a0, .string a1] w fun e w' => e = .returned (.tuple #[.string r1, .string r2, .bool r3]) ∧ Drawn0 w w' := by
 unfold strings_Cut.f at h
 split at h
 case isFalse => cases h
 rename_i h1
 split at h
 case isFalse => cases h
 rename_i h2
 obtain ⟨c, hc⟩ : ∃ c, a1 = ⟨#[c]⟩ := by
  obtain ⟨⟨l⟩⟩ := a1
  have h3 : l.length = 1 := h1
  match l, h3 with
  | [c], _ => exact ⟨c, rfl⟩
 subst hc
 have hgd : (⟨#[c]⟩ : ByteArray).data.toList.getD 0 0 = c := rfl
 rw [hgd] at h
 have HC := fun W => liteCut_ok a0 c W h2
 by_cases hp : 0 ≤ Lib.indexByte a0.data.toList c
 ·
  rw [if_pos hp] at h
  simp only [if_pos hp] at HC
  obtain ⟨rfl, rfl, rfl⟩ : _ = r1 ∧ _ = r2 ∧ true = r3 := by simpa using h
  clear h hp hgd
  go_enter Tryd.func79, Tryd.ntmps79
  go_wp2_with fail
  refine (HC _).mono ?_
  rintro e w3 ⟨rfl, hd⟩
  have HD := Aside0.mk hd
  clear hd
  go_wp2_with fail
  refine bodyPost_ret (v := .tuple #[.string (a0.extract 0 (Lib.indexByte a0.data.toList c).toNat), .string (a0.extract ((Lib.indexByte a0.data.toList c).toNat + 1) a0.size), .bool true]) (by simp [results, Tryd.results79, go_sem]) rfl ⟨?_, HD.out⟩
  simp
 ·
  rw [if_neg hp] at h
  simp only [if_neg hp] at HC
  obtain ⟨rfl, rfl, rfl⟩ : a0 = r1 ∧ _ = r2 ∧ false = r3 := by simpa using h
  clear h hp hgd
  go_enter Tryd.func79, Tryd.ntmps79
  go_wp2_with fail
  refine (HC _).mono ?_
  rintro e w3 ⟨rfl, hd⟩
  have HD := Aside0.mk hd
  clear hd
  go_wp2_with fail
  refine bodyPost_ret (v := .tuple #[.string a0, .string ⟨#[]⟩, .bool false]) (by simp [results, Tryd.results79, go_sem]) rfl ⟨?_, HD.out⟩
  simp

end Go.Proofs.YtkngjdhggcaonaaDoor.PP
