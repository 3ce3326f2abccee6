-- PRINTED by print.py (a twelfth state) out of the translation. Not trusted: Lean checks it.
import Derived.Test.YtnkibbfpmhgeaaaDoorPPx0
import Derived.Test.YtnkibbfpmhgeaaaDoorPPx1
namespace Go.Proofs.YtnkibbfpmhgeaaaDoor.PP
open Go.RowKit Go.Proofs.YtnkibbfpmhgeaaaDoorW.PrintWords Go.Proofs.YtnkibbfpmhgeaaaDoorW.PrintLast Go.Proofs.YtnkibbfpmhgeaaaDoorW.PrintMore
attribute [local go_sem] max2_int min2_int max_two min_two max_three min_three max_four min_four   -- for this text's walks alone
open Go.Proofs.YtnkibbfpmhgeaaaDoor.My
set_option linter.unusedVariables false
set_option linter.unusedSimpArgs false

/-! ### names_Parts: function 21 -/
def names_Parts.f (a0 : ByteArray) : Option (List ByteArray) := if a0.size < 4294967281 then some (pieces 47 a0) else none
theorem parts_ok (s : ByteArray) (w : World) (hs : s.size < 4294967281) :
  Calls Tryd.prog 21 #[.string s] w fun e w' =>
   e = .returned (.slice (some ⟨w.heap.size, 0, none⟩) (pieces 47 s).length (pieces 47 s).length) ∧ w' = w.alloc (.cells ((pieces 47 s).map Value.string).toArray 9) := by
 go_enter Tryd.func21, Tryd.ntmps21
 go_wp2_with fail
 refine (split_any s 47 _ hs).mono ?_
 rintro e w' ⟨rfl, rfl⟩
 go_wp2_with fail
 go_ret
 exact ⟨rfl, rfl⟩
theorem row_of_pieces (w : World) (L : List ByteArray) (hL : L.length ≤ 9223372036854775807) : Kd.R Kd.string 9 (w.alloc (.cells (L.map Value.string).toArray 9)) w.heap.size (fun _ => True) (.slice (some ⟨w.heap.size, 0, none⟩) L.length L.length) L := by
 refine ⟨fun k _ => trivial, L.map Value.string, ?_, ?_⟩
 ·
  refine ⟨by simp [Kd.string, Kd.scalar], .inr ⟨w.heap.size, L.length, (L.map Value.string).toArray, rfl, Nat.le_refl _, Array.getElem?_push_size, ?_⟩⟩
  simp [Kd.string, Kd.scalar]
  exact ⟨by unfold maxLen; exact hL, by rw [List.take_of_length_le (by simp)]⟩
 ·
  refine ⟨by simp [Kd.string, Kd.scalar], fun j p hj => ?_⟩
  show ((L.map Value.string).drop (j * 1)).take 1 = [.string p]
  have hlt : j < L.length := (List.getElem?_eq_some_iff.1 hj).1
  rw [Nat.mul_one, List.drop_eq_getElem_cons (by simpa using hlt), List.take_succ_cons, List.take_zero, List.getElem_map, (List.getElem?_eq_some_iff.1 hj).2]
theorem names_Parts.calls (a0 : ByteArray) (r : List ByteArray) (w : World) (h : names_Parts.f a0 = some r) :
  Calls Tryd.prog 21 #[.string a0] w fun e w' => ∃ v0_ : Value, e = .returned (v0_) ∧ Kd.R Kd.string 9 w' w.heap.size (fun _ => True) v0_ r ∧ Below w.heap.size w w' := by
 unfold names_Parts.f at h
 split at h
 case isFalse => cases h
 rename_i hs
 injection h with h
 subst h
 refine (parts_ok a0 w hs).mono ?_
 rintro e w' ⟨rfl, rfl⟩
 have hn := Lib.countB_le (⟨#[47]⟩ : ByteArray) (Nat.le_refl 1) a0.size a0 (Nat.le_refl _)
 exact ⟨_, rfl, row_of_pieces w _ (by rw [pieces_length]; omega), (Below.refl _ _).alloc (Nat.le_refl _) _⟩

/-! ### names_Right: function 22 -/
def badRune (r : Nat) : Bool := decide (r < 32) || decide (r = 127) || decide (r = 42) || decide (r = 37)
def rightB (s : ByteArray) : Bool :=
 decide (s.size ≤ 40) && Lib.validD s.data.toList && !(runesF s s.size 0).any badRune && !(pieces 47 s).any (fun p => p.data.toList.isEmpty) && decide ((pieces 47 s).length ≤ 8)
def names_Right.f (a0 : ByteArray) : Option Bool := if a0.size ≤ 100000000 then some (rightB a0) else none
set_option maxHeartbeats 4000000 in
set_option maxRecDepth 100000 in
theorem names_Right.calls (a0 : ByteArray) (r : Bool) (w : World) (h : names_Right.f a0 = some r) (hT : Tabs w) :
  Calls Tryd.prog 22 #[.string a0] w fun e w' => e = .returned (.bool r) ∧ Below w.heap.size w w' := by
 unfold names_Right.f at h
 split at h
 case isFalse => cases h
 rename_i hs
 injection h with h
 have HH := Aside0.mk h
 have HT := Aside0.mk hT
 clear h hT
 by_cases h40 : a0.size ≤ 40
 ·
  go_enter Tryd.func22, Tryd.ntmps22
  have i40 : (a0.size : Int) ≤ 40 := by omega
  go_wp2_with fail
  refine (valid_any a0 _ (by omega) HT.out).mono ?_
  rintro e w1 ⟨rfl, hb1⟩
  have HB1 := Aside0.mk hb1
  have hle1 := hb1.size
  clear hb1 HT
  by_cases hv : Lib.validD a0.data.toList = true
  ·
   rw [hv]
   obtain ⟨fin, hfin⟩ : ∃ fin, fin = (runesF a0 a0.size 0).any badRune := ⟨_, rfl⟩
   have HF := Aside0.mk hfin
   clear hfin
   go_wp2_with fail
   go_loopg [4] a0.size (fun kq v4 wr => ∃ (pos : Nat), a0.size ≤ pos + kq ∧ kq ≤ a0.size ∧ Aside0 (wr.heap[w1.heap.size]? = some (.stringIter a0 pos)) ∧ Aside0 (Below w.heap.size w wr) ∧ Aside0 ((runesF a0 kq pos).any badRune = fin))
   case atStart =>
    refine ⟨0, by omega, by omega, ⟨?_⟩, ⟨HB1.out.alloc hle1 _⟩, ⟨HF.out.symm⟩⟩
    have := World.iter_heap w1 a0 0
    simpa using this
   case round =>
    obtain ⟨pos, hpk, hka, HIT, HB, HFo⟩ := hrel
    by_cases hp : pos < a0.size
    ·
     obtain ⟨k, rfl⟩ : ∃ k, gk = k + 1 := ⟨gk - 1, by omega⟩
     have hnx : ∀ ty, (Instr.next (.pointer (some ⟨w1.heap.size, 0, none⟩)) true ty).run Tryd.prog wr = _ := fun ty => Lib.run_next_any_at wr w1.heap.size a0 pos ty HIT.out hp
     have hwd := width_pos a0 pos hp
     have hrl := decode_le a0 pos
     have hfo := HFo.out
     simp only [runesF] at hfo
     rw [if_pos hp, List.any_cons] at hfo
     obtain ⟨r0, hr0⟩ : ∃ r0, r0 = (Utf8.decode a0 pos).1 := ⟨_, rfl⟩
     obtain ⟨wd, hw⟩ : ∃ wd, wd = (Utf8.decode a0 pos).2 := ⟨_, rfl⟩
     rw [← hr0, ← hw] at hnx hfo
     rw [← hw] at hwd
     rw [← hr0] at hrl
     clear hr0 hw HFo
     have HFo := Aside0.mk hfo
     have HIT2 := Aside0.mk (Lib.iterAt_heap wr w1.heap.size a0 pos (pos + wd) HIT.out)
     have HB2 := Aside0.mk (Lib.below_iterAt HB.out (k := w1.heap.size) (by omega) a0 (pos + wd))
     clear hfo HIT HB
     by_cases b1 : r0 < 32
     ·
      have c1 : (r0 : Int) < 32 := by omega
      have hb : badRune r0 = true := by unfold badRune; simp [*]
      have hr : r = false := by
       have hf := HFo.out
       rw [← HH.out]; unfold rightB; rw [← HF.out, ← hf, hb]; simp
      subst hr
      clear HFo HF HH
      go_wp2_with fail
      go_ret
      exact ⟨rfl, HB2.out⟩
     by_cases b2 : r0 = 127
     ·
      have c1 : ¬ (r0 : Int) < 32 := by omega
      have c2 : ((r0 : Int) == 127) = true := beq_iff_eq.mpr (by omega)
      have hb : badRune r0 = true := by unfold badRune; simp [*]
      have hr : r = false := by
       have hf := HFo.out
       rw [← HH.out]; unfold rightB; rw [← HF.out, ← hf, hb]; simp
      subst hr
      clear HFo HF HH
      go_wp2_with fail
      go_ret
      exact ⟨rfl, HB2.out⟩
     by_cases b3 : r0 = 42
     ·
      have c1 : ¬ (r0 : Int) < 32 := by omega
      have c2 : ((r0 : Int) == 127) = false := beq_eq_false_iff_ne.mpr (by omega)
      have c3 : ((r0 : Int) == 42) = true := beq_iff_eq.mpr (by omega)
      have hb : badRune r0 = true := by unfold badRune; simp [*]
      have hr : r = false := by
       have hf := HFo.out
       rw [← HH.out]; unfold rightB; rw [← HF.out, ← hf, hb]; simp
      subst hr
      clear HFo HF HH
      go_wp2_with fail
      go_ret
      exact ⟨rfl, HB2.out⟩
     by_cases b4 : r0 = 37
     ·
      have c1 : ¬ (r0 : Int) < 32 := by omega
      have c2 : ((r0 : Int) == 127) = false := beq_eq_false_iff_ne.mpr (by omega)
      have c3 : ((r0 : Int) == 42) = false := beq_eq_false_iff_ne.mpr (by omega)
      have c4 : ((r0 : Int) == 37) = true := beq_iff_eq.mpr (by omega)
      have hb : badRune r0 = true := by unfold badRune; simp [*]
      have hr : r = false := by
       have hf := HFo.out
       rw [← HH.out]; unfold rightB; rw [← HF.out, ← hf, hb]; simp
      subst hr
      clear HFo HF HH
      go_wp2_with fail
      go_ret
      exact ⟨rfl, HB2.out⟩
     have hb : badRune r0 = false := by unfold badRune; simp [*]
     have hf := HFo.out
     rw [hb, Bool.false_or] at hf
     have HFo2 := Aside0.mk hf
     have c1 : ¬ (r0 : Int) < 32 := by omega
     have c2 : ((r0 : Int) == 127) = false := beq_eq_false_iff_ne.mpr (by omega)
     have c3 : ((r0 : Int) == 42) = false := beq_eq_false_iff_ne.mpr (by omega)
     have c4 : ((r0 : Int) == 37) = false := beq_eq_false_iff_ne.mpr (by omega)
     clear hf HFo hb b1 b2 b3 b4
     go_wp2_with fail
     go_roundg k
     case measure => omega
     case rel => exact ⟨pos + wd, by omega, by omega, HIT2, HB2, HFo2⟩
    ·
     have hfo := HFo.out
     rw [runesF_end a0 _ _ hp] at hfo
     have hnx : ∀ ty, (Instr.next (.pointer (some ⟨w1.heap.size, 0, none⟩)) true ty).run Tryd.prog wr = _ := fun ty => Lib.run_next_end_at wr w1.heap.size a0 pos ty HIT.out (by omega)
     have HF2 := Aside0.mk (show (runesF a0 a0.size 0).any badRune = false by rw [← HF.out, ← hfo]; rfl)
     clear hfo HFo HF HIT
     go_wp2_with fail
     refine (parts_ok a0 _ (by omega)).mono ?_
     rintro e w2 ⟨rfl, hw2⟩
     have hpl : (pieces 47 a0).length ≤ a0.size + 1 := by
      rw [pieces_length]
      have := Lib.countB_le (⟨#[47]⟩ : ByteArray) (Nat.le_refl 1) a0.size a0 (Nat.le_refl _)
      omega
     obtain ⟨ps, hps⟩ : ∃ ps, ps = pieces 47 a0 := ⟨_, rfl⟩
     rw [← hps] at hw2 hpl ⊢
     have HB2 := Aside0.mk (show Below w.heap.size w w2 by rw [hw2]; exact HB.out.alloc HB.out.size _)
     have HC := Aside0.mk (show ∀ j (h : j < ps.length), w2.cell? ⟨wr.heap.size, j, none⟩ = some (.string ps[j]) by
      intro j h
      rw [hw2, World.cell?_alloc_new]
      simp [h])
     have HR := Aside0.mk (show r = (!ps.any (fun p => p.data.toList.isEmpty) && decide (ps.length ≤ 8)) by
      rw [← HH.out]; unfold rightB; rw [HF2.out, hv, ← hps, decide_eq_true h40]; rfl)
     clear hw2 HF2 HH HB hps hnx hp
     go_wp2_with fail
     go_loopg [39] ps.length (fun kq v39 wq => ∃ i : Nat, v39 = .int .i64 i ∧ i + kq = ps.length ∧ wq = w2 ∧ Aside0 ((ps.drop i).any (fun p => p.data.toList.isEmpty) = ps.any (fun p => p.data.toList.isEmpty)))
     case atStart => exact ⟨0, rfl, by omega, rfl, ⟨rfl⟩⟩
     case round =>
      obtain ⟨i, rfl, hik, rfl, HA⟩ := hrel
      by_cases hi : i < ps.length
      ·
       obtain ⟨k, rfl⟩ : ∃ k, gk = k + 1 := ⟨gk - 1, by omega⟩
       have hcell := HC.out i hi
       have ha := HA.out
       rw [List.drop_eq_getElem_cons hi, List.any_cons] at ha
       obtain ⟨p, hp⟩ : ∃ p, p = ps[i] := ⟨_, rfl⟩
       rw [← hp] at ha hcell
       clear HA hp
       by_cases he : p.data.toList.isEmpty = true
       ·
        have he2 : p.toList.isEmpty = true := by rw [ByteArray.toList_eq]; exact he
        rw [he, Bool.true_or] at ha
        have hr : r = false := by rw [HR.out, ← ha]; rfl
        subst hr
        clear ha HR
        go_wp2_with fail
        go_ret
        exact ⟨rfl, HB2.out⟩
       ·
        rw [Bool.not_eq_true] at he
        have he2 : p.toList.isEmpty = false := by rw [ByteArray.toList_eq]; exact he
        rw [he, Bool.false_or] at ha
        have HA2 := Aside0.mk ha
        clear ha he
        go_wp2_with fail
        go_roundg k
        case measure => omega
        case rel => exact ⟨i + 1, rfl, by omega, rfl, HA2⟩
      ·
       have ha := HA.out
       rw [List.drop_eq_nil_iff.2 (by omega)] at ha
       have HR2 := Aside0.mk (show r = decide (ps.length ≤ 8) by rw [HR.out, ← ha]; simp)
       clear ha HA HR
       by_cases h8 : ps.length ≤ 8
       ·
        have i8 : (ps.length : Int) ≤ 8 := by omega
        have hr : r = true := by rw [HR2.out]; exact decide_eq_true h8
        subst hr
        go_wp2_with fail
        go_ret
        exact ⟨rfl, HB2.out⟩
       ·
        have i8 : ¬ (ps.length : Int) ≤ 8 := by omega
        have hr : r = false := by rw [HR2.out]; exact decide_eq_false h8
        subst hr
        go_wp2_with fail
        go_ret
        exact ⟨rfl, HB2.out⟩
  ·
   rw [Bool.not_eq_true] at hv
   have hr : r = false := by rw [← HH.out]; unfold rightB; rw [hv]; simp
   rw [hv]
   subst hr
   go_wp2_with fail
   go_ret
   exact ⟨rfl, HB1.out⟩
 ·
  have hr : r = false := by rw [← HH.out]; unfold rightB; rw [decide_eq_false h40]; rfl
  subst hr
  have i40 : ¬ (a0.size : Int) ≤ 40 := by omega
  go_enter Tryd.func22, Tryd.ntmps22
  go_wp2_with fail
  go_ret
  exact ⟨rfl, Below.refl _ _⟩

end Go.Proofs.YtnkibbfpmhgeaaaDoor.PP
