/- MyViewL, MyViewS, PPx9 (mergeall.py). -/
import Derived.Test.YtmpngedfnheilaaDoorViewPlaysMyViewJ
import Derived.Test.YtmpngedfnheilaaDoorViewPlaysMyMapI
import Derived.Test.YtmpngedfnheilaaDoorViewPlaysPPx0
namespace Go.Proofs.YtmpngedfnheilaaDoor.PP
open Go.RowKit Go.Proofs.YtmpngedfnheilaaDoorW.PrintWords Go.Proofs.YtmpngedfnheilaaDoorW.PrintLast Go.Proofs.YtmpngedfnheilaaDoorW.PrintMore
open Go.Proofs.YtmpngedfnheilaaDoor.My
set_option linter.unusedVariables false
set_option linter.unusedSimpArgs false
theorem zero_texts (w : World) : (zeroValue 31).run Tryd.prog w = .ok (.slice none 0 0) w := by kernel_rfl
theorem setB_below {N0 : Nat} {w w' : World} (h : Below N0 w w') {b : Nat} (hb : N0 ≤ b) (o : Obj) : Below N0 w (setB w' b o) := ⟨h.os, h.tape, h.output, by rw [setB_size]; exact h.size, fun k hk => (setB_ne w' o (by omega)).trans (h.block k hk)⟩
theorem mapStep (w : World) (mf mt : Nat) (hne : mf ≠ mt) (pf pt : List (Int × Value)) (h1 : MI w mf pf) (h2 : MI w mt pt) (x : Int) (hx : getI pf x = none) (hy : getI pt x = none) (vf : Value) :
    ∃ o1 o2 o3, (Instr.mapEntry 71 (.map (some mf)) (.int .i64 x)).run Tryd.prog w = .ok (.tuple #[.slice none 0 0, .int .i64 (pf.length : Int)]) (setB w mf o1) ∧
      (Instr.entryStore 71 (.map (some mf)) (.int .i64 (pf.length : Int)) vf).run Tryd.prog (setB w mf o1) = .ok () (setB (setB w mf o1) mf o2) ∧
      (Instr.mapUpdate 29 (.map (some mt)) (.int .i64 x) (.bool true)).run Tryd.prog (setB (setB w mf o1) mf o2) = .ok () (setB (setB (setB w mf o1) mf o2) mt o3) ∧
      MI (setB (setB (setB w mf o1) mf o2) mt o3) mf (pf ++ [(x, vf)]) ∧ MI (setB (setB (setB w mf o1) mf o2) mt o3) mt (pt ++ [(x, .bool true)]) := by
  obtain ⟨o1, r1, m1⟩ := h1.entryAll Tryd.underlying71 Tryd.underlying3 zero_texts x hx
  obtain ⟨o2, r2, m2⟩ := (m1 w rfl).storeAll (P := Tryd.prog) (t := 71) vf
  have h2' : MI (setB (setB w mf o1) mf o2) mt pt := h2.keep ((setB_ne _ _ (Ne.symm hne)).trans (setB_ne _ _ (Ne.symm hne)))
  obtain ⟨o3, r3, m3⟩ := h2'.updateAll Tryd.underlying29 Tryd.underlying3 x hy (.bool true)
  exact ⟨o1, o2, o3, r1 w rfl, r2 _ rfl, r3 _ rfl, (m2 _ rfl).keep (setB_ne _ _ hne), m3 _ rfl⟩
end Go.Proofs.YtmpngedfnheilaaDoor.PP

namespace Go.Proofs.YtmpngedfnheilaaDoor.PP
open Go.RowKit Go.Proofs.YtmpngedfnheilaaDoorW.PrintWords Go.Proofs.YtmpngedfnheilaaDoorW.PrintLast Go.Proofs.YtmpngedfnheilaaDoorW.PrintMore
open Go.Proofs.YtmpngedfnheilaaDoor.My
set_option linter.unusedVariables false
set_option linter.unusedSimpArgs false
/-- The map of flags: a row of texts for each message. -/
def FM (FL : List ByteArray → List ByteArray) (w : World) (base : Nat) : List (Int × Value) → List Ml → Prop
  | [], [] => True
  | p :: ps, m :: ms => p.1 = m.f0 ∧ Kd.R Kd.string 9 w base (fun _ => True) p.2 (FL m.f1) ∧ FM FL w base ps ms
  | _, _ => False
def thereM (ms : List Ml) : List (Int × Value) := ms.map fun m => (m.f0, .bool true)
theorem FM.snoc {FL : List ByteArray → List ByteArray} {w : World} {base : Nat} {p : Int × Value} {m : Ml} (h1 : p.1 = m.f0) (h2 : Kd.R Kd.string 9 w base (fun _ => True) p.2 (FL m.f1)) : ∀ (ps : List (Int × Value)) (ms : List Ml), FM FL w base ps ms → FM FL w base (ps ++ [p]) (ms ++ [m])
  | [], [], _ => ⟨h1, h2, trivial⟩
  | q :: ps, n :: ms, h => ⟨h.1, h.2.1, FM.snoc h1 h2 ps ms h.2.2⟩
  | [], n :: ms, h => h.elim
  | q :: ps, [], h => h.elim
theorem FM.step {FL : List ByteArray → List ByteArray} {w w' : World} {base : Nat} (ht : ∀ k, T9 w k → w'.heap[k]? = w.heap[k]?) : ∀ (ps : List (Int × Value)) (ms : List Ml), FM FL w base ps ms → FM FL w' base ps ms
  | [], [], _ => trivial
  | q :: ps, n :: ms, h => ⟨h.1, Kd.R_mono (Kd.R_step (Kd.R_of_own (Kd.own_of_R h.2.1) (fun k hk => (Kd.R_typed h.2.1 k hk : T9 w k))) (fun k hk _ => ht k hk)) (fun _ _ => trivial), FM.step ht ps ms h.2.2⟩
  | [], n :: ms, h => h.elim
  | q :: ps, [], h => h.elim
theorem FM.len {FL : List ByteArray → List ByteArray} {w : World} {base : Nat} : ∀ (ps : List (Int × Value)) (ms : List Ml), FM FL w base ps ms → ps.length = ms.length
  | [], [], _ => rfl
  | q :: ps, n :: ms, h => by simp [FM.len ps ms h.2.2]
  | [], n :: ms, h => h.elim
  | q :: ps, [], h => h.elim
/-- The UIDs that rise are all different. -/
theorem getI_new {FL : List ByteArray → List ByteArray} {w : World} {base : Nat} (x : Int) : ∀ (ps : List (Int × Value)) (ms : List Ml), FM FL w base ps ms → (∀ m ∈ ms, m.f0 ≠ x) → getI ps x = none
  | [], [], _, _ => rfl
  | q :: ps, n :: ms, h, hx => by
    have h1 : x ≠ q.1 := fun e => hx n (List.mem_cons_self ..) (by rw [← h.1, e])
    simp only [getI, if_neg h1]
    exact getI_new x ps ms h.2.2 (fun m hm => hx m (List.mem_cons_of_mem _ hm))
  | [], n :: ms, h, _ => h.elim
  | q :: ps, [], h, _ => h.elim
theorem getI_there (x : Int) : ∀ (ms : List Ml), getI (thereM ms) x = if ∃ m ∈ ms, m.f0 = x then some (.bool true) else none
  | [] => by simp [thereM, getI]
  | m :: ms => by
    have ih := getI_there x ms
    unfold thereM at ih ⊢
    simp only [List.map_cons, getI]
    by_cases h : x = m.f0
    · rw [if_pos h, if_pos ⟨m, List.mem_cons_self .., h.symm⟩]
    · rw [if_neg h, ih]
      by_cases h2 : ∃ m ∈ ms, m.f0 = x
      · rw [if_pos h2, if_pos (by obtain ⟨a, b, c⟩ := h2; exact ⟨a, List.mem_cons_of_mem _ b, c⟩)]
      · rw [if_neg h2, if_neg]
        rintro ⟨a, b, c⟩
        rcases List.mem_cons.1 b with rfl | b
        · exact h c.symm
        · exact h2 ⟨a, b, c⟩
theorem risL_above : ∀ (l : List Ml) (t : Int), ∀ m ∈ risL l t, t < m.f0
  | [], _, m, h => by cases h
  | a :: l, t, m, h => by
    unfold risL at h
    split at h
    · rcases List.mem_cons.1 h with rfl | h
      · assumption
      · have := risL_above l a.f0 m h; omega
    · exact risL_above l t m h
theorem risL_pair : ∀ (l : List Ml) (t : Int), (risL l t).Pairwise (fun a b => a.f0 < b.f0)
  | [], _ => .nil
  | a :: l, t => by
    unfold risL
    split
    · exact .cons (fun m hm => risL_above l a.f0 m hm) (risL_pair l a.f0)
    · exact risL_pair l t
end Go.Proofs.YtmpngedfnheilaaDoor.PP

namespace Go.Proofs.YtmpngedfnheilaaDoor.PP
open Go.RowKit Go.Proofs.YtmpngedfnheilaaDoorW.PrintWords Go.Proofs.YtmpngedfnheilaaDoorW.PrintLast Go.Proofs.YtmpngedfnheilaaDoorW.PrintMore
attribute [local go_sem] max2_int min2_int max_two min_two max_three min_three max_four min_four   -- for this text's walks alone
open Go.Proofs.YtmpngedfnheilaaDoor.My
set_option linter.unusedVariables false
set_option linter.unusedSimpArgs false
def slices_Equal_string_string.l0 : Nat → List ByteArray → List ByteArray → Int → Int → Option (Bool)
 | 0, _, _, _, _ => none
 | k + 1, x0, x1, x12, x13 => if x13 < x12 then (if 0 ≤ x13 then (if x13 < (x0.length : Int) then (if x13 < (x1.length : Int) then (if (rdOf ByteArray.empty x0 x13).toList = (rdOf ByteArray.empty x1 x13).toList then (slices_Equal_string_string.l0 k x0 x1 x12 (wrap64 (x13 + 1))) else (some false)) else (none)) else (none)) else (none)) else (some true)
def slices_Equal_string_string.f (k : Nat) (l0 : List ByteArray) (l1 : List ByteArray) : Option (Bool) := if (l0.length : Int) = (l1.length : Int) then (slices_Equal_string_string.l0 k l0 l1 (l0.length : Int) 0) else (some false)
set_option maxHeartbeats 8000000 in
set_option maxRecDepth 100000 in
theorem slices_Equal_string_string.calls (k : Nat) (A0 : Option Addr) (c0 : Nat) (l0 : List ByteArray) (A1 : Option Addr) (c1 : Nat) (l1 : List ByteArray) (r : Bool) (w : World) (hr0 : Kd.C Kd.string w A0 l0.length l0) (hc0 : l0.length ≤ c0) (hr1 : Kd.C Kd.string w A1 l1.length l1) (hc1 : l1.length ≤ c1) (h : slices_Equal_string_string.f k l0 l1 = some r) :
  Calls Tryd.prog 41 #[.slice A0 l0.length c0, .slice A1 l1.length c1] w fun e w' => e = .returned (.bool r) ∧ Drawn0 w w' := by
 have HR0 := Aside0.mk hr0
 have HC0 := Aside0.mk hc0
 clear hr0 hc0
 have HR1 := Aside0.mk hr1
 have HC1 := Aside0.mk hc1
 clear hr1 hc1
 have H : (if (l0.length : Int) = (l1.length : Int) then (slices_Equal_string_string.l0 k l0 l1 (l0.length : Int) 0) else (some false)) = some r := h
 clear h
 by_cases c3 : (l0.length : Int) = (l1.length : Int)
 ·
  rw [if_pos c3] at H
  have c3b0 : ((l0.length : Int) == (l1.length : Int)) = true := beq_iff_eq.mpr c3
  have c3b1 : ((l0.length : Int) != (l1.length : Int)) = false := bne_eq_false_iff_eq.mpr c3
  have c3b2 : (l0.length == l1.length) = true := by first | simpa using c3 | (simp at c3 ⊢; omega)
  clear c3
  have H' := Aside0.mk H
  clear H
  go_enter Tryd.func41, Tryd.ntmps41
  go_wp2
  repeat (go_quiet (fail); try go_wp2)
  go_loopg [13] k (fun kq v13 w' => ∃ (x13_1 : Int), v13 = .int .i64 x13_1 ∧ Aside0 (slices_Equal_string_string.l0 kq l0 l1 (l0.length : Int) x13_1 = some r) ∧ Aside0 (kq ≤ k) ∧ Drawn0 w w')
  case atStart => exact ⟨(0), (by first | with_reducible rfl | (simp only [pps, Nat.reduceAdd, Int.toNat_natCast]; done) | rfl | (simp; done) | (simp [*]; done)), H', ⟨Nat.le_refl _⟩, by repeat (first | exact Drawn0.refl _ | apply Drawn0.step)⟩
  case round =>
   clear H'
   try clear c1
   try clear p2
   try clear c3
   try clear c3b0
   try clear c3b1
   try clear c3b2
   obtain ⟨x13_1, rfl, HA, HK1, ⟨m1, rfl⟩⟩ := hrel
   cases gk with
   | zero => exact absurd HA.out (by simp [slices_Equal_string_string.l0])
   | succ k1 =>
    have H := HA.out
    clear HA
    simp only [slices_Equal_string_string.l0] at H
    by_cases c4 : x13_1 < (l0.length : Int)
    ·
     rw [if_pos c4] at H
     have c4b0 : decide (x13_1 < (l0.length : Int)) = true := decide_eq_true c4
     clear c4
     by_cases c5 : 0 ≤ x13_1
     ·
      rw [if_pos c5] at H
      have c5b0 : decide (0 ≤ x13_1) = true := decide_eq_true c5
      clear c5
      by_cases c6 : x13_1 < (l0.length : Int)
      ·
       rw [if_pos c6] at H
       have c6b0 : decide (x13_1 < (l0.length : Int)) = true := decide_eq_true c6
       clear c6
       by_cases c7 : x13_1 < (l1.length : Int)
       ·
        rw [if_pos c7] at H
        have c7b0 : decide (x13_1 < (l1.length : Int)) = true := decide_eq_true c7
        clear c7
        by_cases c8 : (rdOf ByteArray.empty l0 x13_1).toList = (rdOf ByteArray.empty l1 x13_1).toList
        ·
         rw [if_pos c8] at H
         have c8b0 : ((rdOf ByteArray.empty l0 x13_1).toList == (rdOf ByteArray.empty l1 x13_1).toList) = true := beq_iff_eq.mpr c8
         have c8b1 : ((rdOf ByteArray.empty l0 x13_1).toList != (rdOf ByteArray.empty l1 x13_1).toList) = false := bne_eq_false_iff_eq.mpr c8
         clear c8
         have H' := Aside0.mk H
         clear H
         have p146 : 0 ≤ (x13_1 : Int) := of_decide_eq_true (by first | (with_reducible assumption) | assumption)
         have q146 : x13_1 < (l0.length : Int) := of_decide_eq_true (by first | (with_reducible assumption) | assumption)
         obtain ⟨ad146, e146, hx146_0⟩ := Kd.at_string HR0.out x13_1 p146 q146
         cases e146
         replace p146 := eq_true p146
         replace q146 := eq_true q146
         have p147 : 0 ≤ (x13_1 : Int) := of_decide_eq_true (by first | (with_reducible assumption) | assumption)
         have q147 : x13_1 < (l1.length : Int) := of_decide_eq_true (by first | (with_reducible assumption) | assumption)
         obtain ⟨ad147, e147, hx147_0⟩ := Kd.at_string HR1.out x13_1 p147 q147
         cases e147
         replace p147 := eq_true p147
         replace q147 := eq_true q147
         go_wp2
         repeat (go_quiet (fail); try go_wp2)
         go_roundg k1
         case measure => have := HK1.out; omega
         case rel => exact ⟨(wrap64 (x13_1 + 1)), (by first | with_reducible rfl | (simp only [pps, Nat.reduceAdd, Int.toNat_natCast]; done) | rfl | (simp; done) | (simp [*]; done)), H', ⟨by have := HK1.out; omega⟩, by repeat (first | exact Drawn0.refl _ | apply Drawn0.step)⟩
        ·
         rw [if_neg c8] at H
         have c8b0 : ((rdOf ByteArray.empty l0 x13_1).toList == (rdOf ByteArray.empty l1 x13_1).toList) = false := beq_eq_false_iff_ne.mpr c8
         have c8b1 : ((rdOf ByteArray.empty l0 x13_1).toList != (rdOf ByteArray.empty l1 x13_1).toList) = true := bne_iff_ne.mpr c8
         obtain rfl := Option.some.inj H
         have p146 : 0 ≤ (x13_1 : Int) := of_decide_eq_true (by first | (with_reducible assumption) | assumption)
         have q146 : x13_1 < (l0.length : Int) := of_decide_eq_true (by first | (with_reducible assumption) | assumption)
         obtain ⟨ad146, e146, hx146_0⟩ := Kd.at_string HR0.out x13_1 p146 q146
         cases e146
         replace p146 := eq_true p146
         replace q146 := eq_true q146
         have p147 : 0 ≤ (x13_1 : Int) := of_decide_eq_true (by first | (with_reducible assumption) | assumption)
         have q147 : x13_1 < (l1.length : Int) := of_decide_eq_true (by first | (with_reducible assumption) | assumption)
         obtain ⟨ad147, e147, hx147_0⟩ := Kd.at_string HR1.out x13_1 p147 q147
         cases e147
         replace p147 := eq_true p147
         replace q147 := eq_true q147
         go_wp2
         repeat (go_quiet (fail); try go_wp2)
         go_ret
         exact ⟨by first | with_reducible rfl | (simp only [pps, Nat.reduceAdd, Int.toNat_natCast]; done) | rfl | (simp; done) | (simp [*]; done), by repeat (first | exact Drawn0.refl _ | apply Drawn0.step)⟩
       ·
        rw [if_neg c7] at H
        exact absurd H (by simp)
      ·
       rw [if_neg c6] at H
       exact absurd H (by simp)
     ·
      rw [if_neg c5] at H
      exact absurd H (by simp)
    ·
     rw [if_neg c4] at H
     have c4b0 : decide (x13_1 < (l0.length : Int)) = false := decide_eq_false c4
     clear c4
     obtain rfl := Option.some.inj H
     go_wp2
     repeat (go_quiet (fail); try go_wp2)
     go_ret
     exact ⟨by first | with_reducible rfl | (simp only [pps, Nat.reduceAdd, Int.toNat_natCast]; done) | rfl | (simp; done) | (simp [*]; done), by repeat (first | exact Drawn0.refl _ | apply Drawn0.step)⟩
 ·
  rw [if_neg c3] at H
  have c3b0 : ((l0.length : Int) == (l1.length : Int)) = false := beq_eq_false_iff_ne.mpr c3
  have c3b1 : ((l0.length : Int) != (l1.length : Int)) = true := bne_iff_ne.mpr c3
  have c3b2 : (l0.length == l1.length) = false := by first | simpa using c3 | (simp at c3 ⊢; omega)
  obtain rfl := Option.some.inj H
  go_enter Tryd.func41, Tryd.ntmps41
  go_wp2
  repeat (go_quiet (fail); try go_wp2)
  go_ret
  exact ⟨by first | with_reducible rfl | (simp only [pps, Nat.reduceAdd, Int.toNat_natCast]; done) | rfl | (simp; done) | (simp [*]; done), by repeat (first | exact Drawn0.refl _ | apply Drawn0.step)⟩
end Go.Proofs.YtmpngedfnheilaaDoor.PP
