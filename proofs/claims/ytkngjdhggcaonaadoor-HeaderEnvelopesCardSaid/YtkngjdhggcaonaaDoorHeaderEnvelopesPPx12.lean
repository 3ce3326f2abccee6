/- YtkngjdhggcaonaaDoorPPx12, as far as HeaderEnvelopes needs it (prune.py). -/
import Derived.Test.YtkngjdhggcaonaaDoorHeaderEnvelopesPPx0
namespace Go.Proofs.YtkngjdhggcaonaaDoor.PP
open Go.RowKit Go.Proofs.YtkngjdhggcaonaaDoorW.PrintWords Go.Proofs.YtkngjdhggcaonaaDoorW.PrintLast Go.Proofs.YtkngjdhggcaonaaDoorW.PrintMore
attribute [local go_sem] max2_int min2_int max_two min_two max_three min_three max_four min_four   -- for this text's walks alone
open Go.Proofs.YtkngjdhggcaonaaDoor.My
set_option linter.unusedVariables false
set_option linter.unusedSimpArgs false
def haversackref10_Texts.l0 : Nat → List ByteArray → List ByteArray → Int → Option (Bool)
 | 0, _, _, _ => none
 | k + 1, x0, x1, x5 => if x5 < (x0.length : Int) then (if 0 ≤ x5 then (if x5 < (x1.length : Int) then (if (rdOf ByteArray.empty x0 x5).toList = (rdOf ByteArray.empty x1 x5).toList then (haversackref10_Texts.l0 k x0 x1 (wrap64 (x5 + 1))) else (some false)) else (none)) else (none)) else (some true)
def haversackref10_Texts.f (k : Nat) (l0 : List ByteArray) (l1 : List ByteArray) : Option (Bool) := if (l0.length : Int) = (l1.length : Int) then (haversackref10_Texts.l0 k l0 l1 0) else (some false)
theorem haversackref10_Texts.mono_l : ∀ k, (∀ y0 y1 y2, LeO (haversackref10_Texts.l0 k y0 y1 y2) (haversackref10_Texts.l0 (k + 1) y0 y1 y2))
 | 0 => fun _ _ _ r h => by simp [haversackref10_Texts.l0] at h
 | k + 1 => by
  have ih0 := haversackref10_Texts.mono_l k
  ·
   intro y0 y1 y2
   unfold haversackref10_Texts.l0
   repeat' first
   | (with_reducible exact ih0 _ _ _)
   | (with_reducible exact LeO.refl _)
   | (with_reducible exact LeO.none _)
   | (with_reducible refine LeO.ite ?_ ?_)
   | (with_reducible refine LeO.bind ?_ (fun _ => ?_))
   | exact ih0 _ _ _
   | exact LeO.none _
   | refine LeO.ite ?_ ?_
   | refine LeO.bind ?_ (fun _ => ?_)
theorem haversackref10_Texts.mono : ∀ a0 a1 k, LeO (haversackref10_Texts.f k a0 a1) (haversackref10_Texts.f (k + 1) a0 a1) := by
 intro a0 a1 k
 have ih0 := haversackref10_Texts.mono_l k
 unfold haversackref10_Texts.f
 repeat' first
   | (with_reducible exact ih0 _ _ _)
   | (with_reducible exact LeO.refl _)
   | (with_reducible exact LeO.none _)
   | (with_reducible refine LeO.ite ?_ ?_)
   | (with_reducible refine LeO.bind ?_ (fun _ => ?_))
   | exact ih0 _ _ _
   | exact LeO.none _
   | refine LeO.ite ?_ ?_
   | refine LeO.bind ?_ (fun _ => ?_)
set_option maxHeartbeats 8000000 in
set_option maxRecDepth 100000 in
theorem haversackref10_Texts.calls (k : Nat) (A0 : Option Addr) (c0 : Nat) (l0 : List ByteArray) (A1 : Option Addr) (c1 : Nat) (l1 : List ByteArray) (r : Bool) (w : World) (hr0 : Kd.C Kd.string w A0 l0.length l0) (hc0 : l0.length ≤ c0) (hr1 : Kd.C Kd.string w A1 l1.length l1) (hc1 : l1.length ≤ c1) (h : haversackref10_Texts.f k l0 l1 = some r) :
  Calls Tryd.prog 23 #[.slice A0 l0.length c0, .slice A1 l1.length c1] w fun e w' => e = .returned (.bool r) ∧ Drawn0 w w' := by
 have HR0 := Aside0.mk hr0
 have HC0 := Aside0.mk hc0
 clear hr0 hc0
 have HR1 := Aside0.mk hr1
 have HC1 := Aside0.mk hc1
 clear hr1 hc1
 have H : (if (l0.length : Int) = (l1.length : Int) then (haversackref10_Texts.l0 k l0 l1 0) else (some false)) = some r := h
 clear h
 by_cases c3 : (l0.length : Int) = (l1.length : Int)
 ·
  rw [if_pos c3] at H
  have c3b0 : ((l0.length : Int) == (l1.length : Int)) = true := beq_iff_eq.mpr c3
  have c3b1 : ((l0.length : Int) != (l1.length : Int)) = false := bne_eq_false_iff_eq.mpr c3
  have c3b2 : (l0.length == l1.length) = true := by first | simpa using c3 | (simp at c3 ⊢; omega)
  clear c3
  have H' := Aside0.mk H
  clear H
  go_enter Tryd.func23, Tryd.ntmps23
  go_wp2
  repeat (go_quiet (fail); try go_wp2)
  go_loopg [5] k (fun kq v5 w' => ∃ (x5_1 : Int), v5 = .int .i64 x5_1 ∧ Aside0 (haversackref10_Texts.l0 kq l0 l1 x5_1 = some r) ∧ Aside0 (kq ≤ k) ∧ Drawn0 w w')
  case atStart => exact ⟨(0), (by first | with_reducible rfl | (simp only [pps, Nat.reduceAdd, Int.toNat_natCast]; done) | rfl | (simp; done) | (simp [*]; done)), H', ⟨Nat.le_refl _⟩, by repeat (first | exact Drawn0.refl _ | apply Drawn0.step)⟩
  case round =>
   clear H'
   try clear c1
   try clear c2
   try clear p2
   try clear c3
   try clear c3b0
   try clear c3b1
   try clear c3b2
   obtain ⟨x5_1, rfl, HA, HK1, ⟨m1, rfl⟩⟩ := hrel
   cases gk with
   | zero => exact absurd HA.out (by simp [haversackref10_Texts.l0])
   | succ k1 =>
    have H := HA.out
    clear HA
    simp only [haversackref10_Texts.l0] at H
    by_cases c4 : x5_1 < (l0.length : Int)
    ·
     rw [if_pos c4] at H
     have c4b0 : decide (x5_1 < (l0.length : Int)) = true := decide_eq_true c4
     clear c4
     by_cases c5 : 0 ≤ x5_1
     ·
      rw [if_pos c5] at H
      have c5b0 : decide (0 ≤ x5_1) = true := decide_eq_true c5
      clear c5
      by_cases c6 : x5_1 < (l1.length : Int)
      ·
       rw [if_pos c6] at H
       have c6b0 : decide (x5_1 < (l1.length : Int)) = true := decide_eq_true c6
       clear c6
       by_cases c7 : (rdOf ByteArray.empty l0 x5_1).toList = (rdOf ByteArray.empty l1 x5_1).toList
       ·
        rw [if_pos c7] at H
        have c7b0 : ((rdOf ByteArray.empty l0 x5_1).toList == (rdOf ByteArray.empty l1 x5_1).toList) = true := beq_iff_eq.mpr c7
        have c7b1 : ((rdOf ByteArray.empty l0 x5_1).toList != (rdOf ByteArray.empty l1 x5_1).toList) = false := bne_eq_false_iff_eq.mpr c7
        clear c7
        have H' := Aside0.mk H
        clear H
        have p137 : 0 ≤ (x5_1 : Int) := of_decide_eq_true (by first | (with_reducible assumption) | assumption)
        have q137 : x5_1 < (l0.length : Int) := of_decide_eq_true (by first | (with_reducible assumption) | assumption)
        obtain ⟨ad137, e137, hx137_0⟩ := Kd.at_string HR0.out x5_1 p137 q137
        cases e137
        replace p137 := eq_true p137
        replace q137 := eq_true q137
        have p138 : 0 ≤ (x5_1 : Int) := of_decide_eq_true (by first | (with_reducible assumption) | assumption)
        have q138 : x5_1 < (l1.length : Int) := of_decide_eq_true (by first | (with_reducible assumption) | assumption)
        obtain ⟨ad138, e138, hx138_0⟩ := Kd.at_string HR1.out x5_1 p138 q138
        cases e138
        replace p138 := eq_true p138
        replace q138 := eq_true q138
        go_wp2
        repeat (go_quiet (fail); try go_wp2)
        go_roundg k1
        case measure => have := HK1.out; omega
        case rel => exact ⟨(wrap64 (x5_1 + 1)), (by first | with_reducible rfl | (simp only [pps, Nat.reduceAdd, Int.toNat_natCast]; done) | rfl | (simp; done) | (simp [*]; done)), H', ⟨by have := HK1.out; omega⟩, by repeat (first | exact Drawn0.refl _ | apply Drawn0.step)⟩
       ·
        rw [if_neg c7] at H
        have c7b0 : ((rdOf ByteArray.empty l0 x5_1).toList == (rdOf ByteArray.empty l1 x5_1).toList) = false := beq_eq_false_iff_ne.mpr c7
        have c7b1 : ((rdOf ByteArray.empty l0 x5_1).toList != (rdOf ByteArray.empty l1 x5_1).toList) = true := bne_iff_ne.mpr c7
        obtain rfl := Option.some.inj H
        have p137 : 0 ≤ (x5_1 : Int) := of_decide_eq_true (by first | (with_reducible assumption) | assumption)
        have q137 : x5_1 < (l0.length : Int) := of_decide_eq_true (by first | (with_reducible assumption) | assumption)
        obtain ⟨ad137, e137, hx137_0⟩ := Kd.at_string HR0.out x5_1 p137 q137
        cases e137
        replace p137 := eq_true p137
        replace q137 := eq_true q137
        have p138 : 0 ≤ (x5_1 : Int) := of_decide_eq_true (by first | (with_reducible assumption) | assumption)
        have q138 : x5_1 < (l1.length : Int) := of_decide_eq_true (by first | (with_reducible assumption) | assumption)
        obtain ⟨ad138, e138, hx138_0⟩ := Kd.at_string HR1.out x5_1 p138 q138
        cases e138
        replace p138 := eq_true p138
        replace q138 := eq_true q138
        go_wp2
        repeat (go_quiet (fail); try go_wp2)
        go_ret
        exact ⟨by first | with_reducible rfl | (simp only [pps, Nat.reduceAdd, Int.toNat_natCast]; done) | rfl | (simp; done) | (simp [*]; done), by repeat (first | exact Drawn0.refl _ | apply Drawn0.step)⟩
      ·
       rw [if_neg c6] at H
       exact absurd H (by simp)
     ·
      rw [if_neg c5] at H
      exact absurd H (by simp)
    ·
     rw [if_neg c4] at H
     have c4b0 : decide (x5_1 < (l0.length : Int)) = false := decide_eq_false c4
     clear c4
     obtain rfl := Option.some.inj H
     go_wp2
     repeat (go_quiet (fail); try go_wp2)
     go_ret
     exact ⟨by first | with_reducible rfl | (simp only [pps, Nat.reduceAdd, Int.toNat_natCast]; done) | rfl | (simp; done) | (simp [*]; done), by repeat (first | exact Drawn0.refl _ | apply Drawn0.step)⟩
 ·
  rw [if_neg c3] at H
  have c3b0 : ((l0.length : Int) == (l1.length : Int)) = false := beq_eq_false_iff_ne.mpr c3
  have c3b1 : ((l0.length : Int) != (l1.length : Int)) = true := bne_iff_ne.mpr c3
  have c3b2 : (l0.length == l1.length) = false := by first | simpa using c3 | (simp at c3 ⊢; omega)
  obtain rfl := Option.some.inj H
  go_enter Tryd.func23, Tryd.ntmps23
  go_wp2
  repeat (go_quiet (fail); try go_wp2)
  go_ret
  exact ⟨by first | with_reducible rfl | (simp only [pps, Nat.reduceAdd, Int.toNat_natCast]; done) | rfl | (simp; done) | (simp [*]; done), by repeat (first | exact Drawn0.refl _ | apply Drawn0.step)⟩
end Go.Proofs.YtkngjdhggcaonaaDoor.PP
namespace Go.Proofs.YtkngjdhggcaonaaDoor.PP
open Go.RowKit Go.Proofs.YtkngjdhggcaonaaDoorW.PrintWords Go.Proofs.YtkngjdhggcaonaaDoorW.PrintLast Go.Proofs.YtkngjdhggcaonaaDoorW.PrintMore
attribute [local go_sem] max2_int min2_int max_two min_two max_three min_three max_four min_four   -- for this text's walks alone
open Go.Proofs.YtkngjdhggcaonaaDoor.My
set_option linter.unusedVariables false
set_option linter.unusedSimpArgs false
def without (c : UInt8) (l : List UInt8) : List UInt8 := l.filter (fun b => b != c)
def strings_ReplaceAll.f (a0 a1 a2 : ByteArray) : Option ByteArray :=
 if a0.size ≤ 1000000000 then (if a1.size = 1 then (if a2.size = 0 then some ⟨(without (a1.data.toList.getD 0 0) a0.data.toList).toArray⟩ else none) else none) else none
theorem inf8b : (Tryd.prog.info? 5).map (fun i => (i.zero, i.size, i.bytes)) = some (some (.int .u8 0), 1, 1) := by kernel_rfl
set_option maxHeartbeats 2000000 in
set_option maxRecDepth 100000 in
theorem copyCheck_ok (b : Nat) (bs : List Value) (w : World) (h : Lib.IsBuilderF 81 5 b b bs w) :
  Calls Tryd.prog 76 #[.pointer (some ⟨b, 0, none⟩)] w fun e w' => e = .returned (.tuple #[]) ∧ (Lib.BuilderAtF 81 5 b b (.pointer (some ⟨b, 0, none⟩)) bs w' ∧ Kept 5 b w w') := by
 rcases h with h | h
 ·
  have c0 := h.cell0
  have f0 := h.frozen0
  have hs := h.shape
  have H := Aside0.mk h
  clear h
  go_enter Tryd.func76, Tryd.ntmps76
  obtain ⟨j, hj, hjs⟩ := Option.map_eq_some_iff.1 Tryd.bx169.sizeBuilder
  go_wp2
  rw [Lib.run_to_unsafe w ⟨b, 0, none⟩ Tryd.underlying79 Tryd.underlying112 hj (by rw [hjs]; decide) hs (Nat.zero_lt_succ 1)]
  simp only [Result.andThen]
  rw [Oper.upon_value]
  go_wp2
  rw [run_callFunc_extern Tryd.func90 (by kernel_rfl) (by kernel_rfl) (by kernel_rfl) (e := Extern.AbiNoEscape.same) (by kernel_rfl)]
  rw [Lib.run_noEscape]
  simp only [Result.andThen]
  rw [Oper.upon_value]
  go_wp2
  rw [Lib.run_from_unsafe w ⟨b, 0, none⟩ Tryd.underlying112 Tryd.underlying79 hj hs Tryd.bx169.liesBuilder]
  simp only [Result.andThen]
  rw [Oper.upon_value]
  go_wp2
  go_end0
  exact ⟨rfl, H.out.used _, (Kept.refl _ b w).setCell 0 _⟩
 ·
  have c0 := h.cell0
  have H := Aside0.mk h
  clear h
  go_enter Tryd.func76, Tryd.ntmps76
  obtain ⟨j, hj, _⟩ := Option.map_eq_some_iff.1 Tryd.bx169.sizeBuilder
  go_wp2
  rw [Lib.run_neq_ptr_same w _ Tryd.underlying79 hj]
  go_wp2
  go_end0
  exact ⟨rfl, H.out, Kept.refl _ b w⟩
/-- A builder that the call itself has made. -/
abbrev IsB (b : Nat) (l : List UInt8) (w : World) : Prop := Lib.IsBuilderF 81 5 b b (Lib.byteCells l) w
theorem IsB.lt' {b : Nat} {l : List UInt8} {w : World} (h : IsB b l w) : b < w.heap.size := by
 rcases h with ⟨_, v, h, _⟩ | ⟨_, v, h, _⟩ <;> exact (Array.getElem?_eq_some_iff.1 h).1
set_option maxHeartbeats 2000000 in
set_option maxRecDepth 100000 in
theorem writeString_ok (b : Nat) (l : List UInt8) (s : ByteArray) (w : World) (h : IsB b l w) (hl : l.length ≤ 100000000000) (hs : s.size ≤ 100000000000) :
  Calls Tryd.prog 50 #[.pointer (some ⟨b, 0, none⟩), .string s] w fun e w' => e = .returned (.tuple #[.int .i64 s.size, .nilIface]) ∧ IsB b (l ++ s.data.toList) w' ∧ Kept 5 b w w' := by
 obtain ⟨i0, hi, hzz⟩ := Option.map_eq_some_iff.1 inf8b
 simp only [Prod.mk.injEq] at hzz
 obtain ⟨hz0, hz1, hz2⟩ := hzz
 have HI := Aside0.mk hi
 have HZ := Aside0.mk (And.intro hz0 (And.intro hz1 hz2))
 clear hi hz0 hz1 hz2
 go_enter Tryd.func50, Tryd.ntmps50
 go_wp2_with fail
 refine (copyCheck_ok b _ _ h).mono ?_
 rintro e w1 ⟨rfl, h1, hk1⟩
 have hlt : b < w1.heap.size := IsB.lt' (.inr h1)
 obtain ⟨hB, v, hbk, hown, hne⟩ := h1
 have c0 : w1.cell? ⟨b, 0, none⟩ = some (.pointer (some ⟨b, 0, none⟩)) := by rw [Lib.cell_of_heap hbk]; rfl
 have c1 : w1.cell? ⟨b, 1, none⟩ = some v := by rw [Lib.cell_of_heap hbk]; rfl
 have HO := Aside0.mk hown
 have HK := Aside0.mk hk1
 have HB := Aside0.mk hbk
 have HN := Aside0.mk hne
 clear hown hk1 hbk hne h
 go_wp2_with (first | ((with_reducible refine gate_dst (N := 14) rfl ?_); refine Lib.wpList_append_own_stringF _ rfl _ _ 61 9 rfl b 5 i0 Tryd.underlying61 Tryd.underlying9 HI.out HZ.out.1 HZ.out.2.1 HZ.out.2.2 v _ (Lib.byteCells l) rfl HO.out s rfl (by rw [Lib.byteCells_length]; unfold maxLen; omega) (by rw [Lib.byteCells_length]; omega) (by omega) ?_))
 intro v' w2 hown' hgrow _
 have hb2 : w2.heap[b]? = some (.cells #[.pointer (some ⟨b, 0, none⟩), v] 81 (0, 0)) := by
  rw [hgrow.block b hlt (fun e => HN.out e.symm)]
  exact HB.out
 have d0 : w2.cell? ⟨b, 0, none⟩ = some (.pointer (some ⟨b, 0, none⟩)) := by rw [Lib.cell_of_heap hb2]; rfl
 have d1 : w2.cell? ⟨b, 1, none⟩ = some v := by rw [Lib.cell_of_heap hb2]; rfl
 have f1 : w2.frozen? ⟨b, 1, none⟩ = false := Lib.frozen_of_heap hb2 1
 obtain ⟨ao, n', cap, rfl⟩ : ∃ ao n' cap, v' = .slice ao n' cap := by
  rcases hown'.2 with ⟨hv, _⟩ | ⟨g, cap, cur, fz, hv, _⟩
  ·
   exact ⟨_, _, _, hv⟩
  ·
   exact ⟨_, _, _, hv⟩
 have HB2 := Aside0.mk hb2
 have HO2 := Aside0.mk hown'
 have HG := Aside0.mk hgrow
 clear hb2 hown' hgrow c0 c1
 go_wp2
 go_ret2
 refine ⟨rfl, .inr ?_, ?_⟩
 ·
  refine Lib.BuilderAtF.put (Nat.le_refl b) HB2.out (bs' := Lib.byteCells (l ++ s.data.toList)) ?_ (by decide)
  rw [Lib.byteCells_append, List.length_append]
  have := HO2.out
  rw [Lib.strCells_eq] at this
  rw [Lib.byteCells_length s.data.toList]
  exact this
 ·
  exact Kept.setCell ⟨HK.out.below.grown HG.out (by omega) (fun k hk => (HO.out.lt k hk).1), HK.out.others.grown HG.out (Lib.ownsRowF_kind HO.out)⟩ 1 _
theorem cut_at (c : UInt8) : ∀ (r : List UInt8), 0 < r.count c → ∃ j : Nat, Lib.indexByte r c = j ∧ j < r.length ∧ without c r = r.take j ++ without c (r.drop (j + 1)) ∧ r.count c = (r.drop (j + 1)).count c + 1
 | [], h => by simp at h
 | b :: l, h => by
  by_cases hb : b = c
  ·
   subst hb
   exact ⟨0, by simp [Lib.indexByte], by simp, by simp [without], by simp⟩
  ·
   have hc : 0 < l.count c := by rwa [List.count_cons_of_ne hb] at h
   obtain ⟨j, h1, h2, h3, h4⟩ := cut_at c l hc
   refine ⟨j + 1, ?_, by simp only [List.length_cons]; omega, ?_, ?_⟩
   ·
    rw [Lib.indexByte, if_neg (by simpa using hb), h1, if_neg (by rw [beq_iff_eq]; omega)]
    simp
   ·
    rw [List.take_succ_cons, List.drop_succ_cons, List.cons_append, ← h3]
    simp [without, hb]
   ·
    rw [List.count_cons_of_ne hb, h4, List.drop_succ_cons]
theorem without_none (c : UInt8) (r : List UInt8) (h : r.count c = 0) : without c r = r := by
 unfold without
 rw [List.filter_eq_self]
 intro b hb
 rw [bne_iff_ne]
 rintro rfl
 exact absurd hb (List.count_eq_zero.1 h)
set_option maxHeartbeats 4000000 in
set_option maxRecDepth 100000 in
theorem replace_ok (s : ByteArray) (c : UInt8) (w : World) (hs : s.size ≤ 1000000000) :
  Calls Tryd.prog 64 #[.string s, .string ⟨#[c]⟩, .string ⟨#[]⟩, .int .i64 (-1)] w fun e w' => e = .returned (.string ⟨(without c s.data.toList).toArray⟩) ∧ Below w.heap.size w w' := by
 have HCn := Aside0.mk (fun W => countOne_any s c W)
 have HIx := Aside0.mk (fun (x : ByteArray) W => indexOne_any x c W)
 obtain ⟨K, hK⟩ : ∃ K : Nat, K = s.data.toList.count c := ⟨_, rfl⟩
 have hcb : Lib.countByte s.data.toList c = K := hK.symm
 rw [hcb] at HCn
 have hKs : K ≤ s.size := by rw [hK]; have := List.count_le_length (a := c) (l := s.data.toList); simpa using this
 have hbeq : ((⟨#[c]⟩ : ByteArray).toList == (⟨#[]⟩ : ByteArray).toList) = false := by
  apply (Lib.bytes_beq_false_iff _ _).2
  intro h
  exact absurd (congrArg ByteArray.size h) (by simp [ByteArray.size])
 have HK := Aside0.mk hK
 clear hK hcb
 by_cases h0 : K = 0
 ·
  subst h0
  have hn := without_none c s.data.toList HK.out.symm
  have hz : (((0 : Nat) : Int) == 0) = true := rfl
  have HN := Aside0.mk hn
  clear hn
  go_enter Tryd.func64, Tryd.ntmps64
  go_wp2_with fail
  refine (HCn.out _).mono ?_
  rintro e w3 ⟨rfl, hw3⟩
  have hw4 := hw3.symm
  subst hw4
  go_wp2_with fail
  go_ret
  exact ⟨by rw [HN.out]; rfl, Below.refl _ _⟩
 ·
  have hk0 : ((K : Int) == 0) = false := beq_eq_false_iff_ne.2 (by omega)
  have hk1 : decide ((K : Int) < -1) = false := decide_eq_false (by omega)
  go_enter Tryd.func64, Tryd.ntmps64
  go_wp2_with fail
  refine (HCn.out _).mono ?_
  rintro e w3 ⟨rfl, hw3⟩
  have hw4 := hw3.symm
  subst hw4
  go_wp2_with fail
  rw [show ((s.size : Int) + -(K : Int)) = ((s.size - K : Nat) : Int) by omega]
  refine (bGrow_any w.heap.size (s.size - K) _ (heap_alloc_new w _) (by simp) (by omega)).mono ?_
  rintro e w1 ⟨rfl, h1, hb1⟩
  have H1 := Aside0.mk h1
  have HB1 := Aside0.mk (((Below.refl w.heap.size w).alloc (Nat.le_refl _) _).trans hb1)
  clear h1 hb1 hbeq hk0 hk1
  go_wp2_with fail
  go_loopg [11, 53] K (fun kq v11 v53 wr => ∃ (i start : Nat) (acc : List UInt8), v53 = .int .i64 i ∧ v11 = .int .i64 start ∧ i + kq = K ∧ start ≤ s.size ∧ Aside0 (IsB w.heap.size acc wr) ∧ Aside0 (Below w.heap.size w wr) ∧ Aside0 (acc ++ without c (s.data.toList.drop start) = without c s.data.toList) ∧ Aside0 ((s.data.toList.drop start).count c = kq) ∧ Aside0 (acc.length ≤ start))
  case atStart => exact ⟨0, 0, [], rfl, rfl, by omega, Nat.zero_le _, H1, HB1, ⟨by simp⟩, ⟨by simpa using HK.out.symm⟩, ⟨by simp⟩⟩
  case round =>
   obtain ⟨i, start, acc, rfl, rfl, hik, hst, HB, HW, HR, HN, HL⟩ := hrel
   have c1 : (0 : Int) ≤ (start : Int) := by omega
   have c2 : (start : Int) ≤ (s.size : Int) := by omega
   cases gk with
   | zero =>
    have hi1 : decide ((i : Int) < (K : Int)) = false := decide_eq_false (by omega)
    have hn := without_none c _ HN.out
    have hr := HR.out
    rw [hn] at hr
    have HR2 := Aside0.mk hr
    clear hn hr HR HN
    go_wp2_with fail
    refine (writeString_ok w.heap.size acc (s.extract start s.size) wr HB.out (by have := HL.out; omega) (by rw [ByteArray.size_extract]; omega)).mono ?_
    rintro e w3 ⟨rfl, h3, hk3⟩
    rw [Lib.extract_to_end, HR2.out] at h3
    have H3 := Aside0.mk h3
    have HW3 := Aside0.mk (HW.out.trans hk3.below)
    clear h3 hk3
    go_wp2_with fail
    refine (bString_any w.heap.size _ w3 H3.out HW3.out.size).mono ?_
    rintro e w5 ⟨rfl, _, hb5, _⟩
    have HW5 := Aside0.mk (HW3.out.trans hb5)
    clear hb5
    go_wp2_with fail
    go_ret
    exact ⟨rfl, HW5.out⟩
   | succ g =>
    have hi1 : decide ((i : Int) < (K : Int)) = true := decide_eq_true (by omega)
    obtain ⟨j, hj1, hj2, hj3, hj4⟩ := cut_at c (s.data.toList.drop start) (by rw [HN.out]; omega)
    have hjl : j < s.size - start := by simpa using hj2
    have c3 : (start : Int) ≤ (start : Int) + (j : Int) := by omega
    have c4 : (start : Int) + (j : Int) ≤ (s.size : Int) := by omega
    have c5 : (0 : Int) ≤ (start : Int) + (j : Int) := by omega
    have hix := HIx.out (s.extract start s.size) wr
    rw [Lib.extract_to_end, hj1] at hix
    have HIX := Aside0.mk hix
    have HJ := Aside0.mk (show (acc ++ (s.data.toList.drop start).take j) ++ without c (s.data.toList.drop (start + j + 1)) = without c s.data.toList by
     rw [List.append_assoc]
     have := HR.out
     rw [hj3, List.drop_drop] at this
     exact this)
    have HN2 := Aside0.mk (show (s.data.toList.drop (start + j + 1)).count c = g by
     have := HN.out
     rw [hj4, List.drop_drop] at this
     have e : start + j + 1 = start + (j + 1) := by omega
     rw [e]
     omega)
    clear hj1 hj2 hj3 hj4 hix HR HN
    go_wp2_with fail
    refine HIX.out.mono ?_
    rintro e w3 ⟨rfl, hw5⟩
    have hw6 := hw5.symm
    subst hw6
    go_wp2_with fail
    refine (writeString_ok w.heap.size acc (s.extract start (start + j)) _ HB.out (by have := HL.out; omega) (by rw [ByteArray.size_extract]; omega)).mono ?_
    rintro e w4 ⟨rfl, h4, hk4⟩
    rw [show (s.extract start (start + j)).data.toList = (s.data.toList.drop start).take j by rw [Lib.extract_data, Nat.add_sub_cancel_left]] at h4
    have H4 := Aside0.mk h4
    have HW4 := Aside0.mk (HW.out.trans hk4.below)
    have HL4 := Aside0.mk (show (acc ++ (s.data.toList.drop start).take j).length ≤ start + j + 1 by have := HL.out; simp; omega)
    clear h4 hk4
    go_wp2_with fail
    refine (writeString_ok w.heap.size _ ⟨#[]⟩ w4 H4.out (by have := HL4.out; omega) (by simp [ByteArray.size])).mono ?_
    rintro e w5 ⟨rfl, h5, hk5⟩
    rw [show (⟨#[]⟩ : ByteArray).data.toList = [] from rfl, List.append_nil] at h5
    have H5 := Aside0.mk h5
    have HW5 := Aside0.mk (HW4.out.trans hk5.below)
    clear h5 hk5
    go_wp2_with fail
    go_roundg g
    case measure => omega
    case rel => exact ⟨i + 1, start + j + 1, _, by go_num, by go_num, by omega, by omega, H5, HW5, HJ, HN2, HL4⟩
theorem strings_ReplaceAll.calls (a0 a1 a2 : ByteArray) (r : ByteArray) (w : World) (h : strings_ReplaceAll.f a0 a1 a2 = some r) :
  Calls Tryd.prog 45 #[.string a0, .string a1, .string a2] w fun e w' => e = .returned (.string r) ∧ Below w.heap.size w w' := by
 unfold strings_ReplaceAll.f at h
 split at h
 case isFalse => cases h
 rename_i h1
 split at h
 case isFalse => cases h
 rename_i h2
 split at h
 case isFalse => cases h
 rename_i h3
 obtain ⟨c, rfl⟩ : ∃ c, a1 = ⟨#[c]⟩ := by
  obtain ⟨⟨l⟩⟩ := a1
  have h3 : l.length = 1 := h2
  match l, h3 with
  | [c], _ => exact ⟨c, rfl⟩
 obtain rfl : a2 = ⟨#[]⟩ := by
  obtain ⟨⟨l⟩⟩ := a2
  have h4 : l.length = 0 := h3
  match l, h4 with
  | [], _ => rfl
 injection h with h
 have HC := Aside0.mk (fun W => replace_ok a0 c W h1)
 have H := Aside0.mk (show (⟨(without c a0.data.toList).toArray⟩ : ByteArray) = r from h)
 clear h h1 h2 h3
 go_enter Tryd.func45, Tryd.ntmps45
 go_wp2_with fail
 refine (HC.out _).mono ?_
 rintro e w1 ⟨rfl, hb⟩
 have HB := Aside0.mk hb
 clear hb
 go_wp2_with fail
 go_ret
 exact ⟨by rw [← H.out]; rfl, HB.out⟩
def strings_Trim.f (a0 a1 : ByteArray) : Option ByteArray :=
 if a0.size ≤ 9223372036854775807 then (if a1.size ≤ 1000 then (if a1.data.toList.all (fun b => decide (b.toNat < 128)) = true then some ⟨(Lib.trimS a0.data.toList a1.data.toList).toArray⟩ else none) else none) else none
theorem strings_Trim.calls (a0 a1 r : ByteArray) (w : World) (h : strings_Trim.f a0 a1 = some r) :
  Calls Tryd.prog 46 #[.string a0, .string a1] w fun e w' => e = .returned (.string r) ∧ Below w.heap.size w w' := by
 unfold strings_Trim.f at h
 split at h
 case isFalse => cases h
 rename_i h1
 split at h
 case isFalse => cases h
 rename_i h2
 split at h
 case isFalse => cases h
 rename_i h3
 injection h with h
 subst h
 exact trim_any a0 a1 w h1 (by omega) (fun j b hj => of_decide_eq_true (List.all_eq_true.1 h3 b (List.mem_of_getElem? hj)))
end Go.Proofs.YtkngjdhggcaonaaDoor.PP
namespace Go.Proofs.YtkngjdhggcaonaaDoor.PP
open Go.RowKit Go.Proofs.YtkngjdhggcaonaaDoorW.PrintWords Go.Proofs.YtkngjdhggcaonaaDoorW.PrintLast Go.Proofs.YtkngjdhggcaonaaDoorW.PrintMore
attribute [local go_sem] max2_int min2_int max_two min_two max_three min_three max_four min_four   -- for this text's walks alone
open Go.Proofs.YtkngjdhggcaonaaDoor.My
set_option linter.unusedVariables false
set_option linter.unusedSimpArgs false
def header_Unfold.f (a0 : ByteArray) : Option (ByteArray) := (strings_ReplaceAll.f a0 (⟨#[13]⟩ : ByteArray) (⟨#[]⟩ : ByteArray)).bind fun t139 => ((strings_ReplaceAll.f t139 (⟨#[10]⟩ : ByteArray) (⟨#[]⟩ : ByteArray)).bind fun t140 => ((strings_Trim.f t140 (⟨#[32, 9]⟩ : ByteArray)).bind fun t141 => (some t141)))
set_option maxHeartbeats 8000000 in
set_option maxRecDepth 100000 in
theorem header_Unfold.calls (a0 : ByteArray) (r : ByteArray) (w : World) (h : header_Unfold.f a0 = some r) :
  Calls Tryd.prog 21 #[.string a0] w fun e w' => e = .returned (.string r) ∧ Below w.heap.size w w' := by
 have HB := Aside0.mk (Below.refl w.heap.size w)
 have H : ((strings_ReplaceAll.f a0 (⟨#[13]⟩ : ByteArray) (⟨#[]⟩ : ByteArray)).bind fun t139 => ((strings_ReplaceAll.f t139 (⟨#[10]⟩ : ByteArray) (⟨#[]⟩ : ByteArray)).bind fun t140 => ((strings_Trim.f t140 (⟨#[32, 9]⟩ : ByteArray)).bind fun t141 => (some t141)))) = some r := h
 clear h
 replace H := Option.bind_eq_some_iff.mp H
 obtain ⟨t139, A20, H⟩ := H
 replace H : ((strings_ReplaceAll.f t139 (⟨#[10]⟩ : ByteArray) (⟨#[]⟩ : ByteArray)).bind fun t140 => ((strings_Trim.f t140 (⟨#[32, 9]⟩ : ByteArray)).bind fun t141 => (some t141))) = some r := H
 have A2 := Aside0.mk A20
 clear A20
 replace H := Option.bind_eq_some_iff.mp H
 obtain ⟨t140, A30, H⟩ := H
 replace H : ((strings_Trim.f t140 (⟨#[32, 9]⟩ : ByteArray)).bind fun t141 => (some t141)) = some r := H
 have A3 := Aside0.mk A30
 clear A30
 replace H := Option.bind_eq_some_iff.mp H
 obtain ⟨t141, A40, H⟩ := H
 replace H : (some t141) = some r := H
 have A4 := Aside0.mk A40
 clear A40
 obtain rfl := Option.some.inj H
 go_enter Tryd.func21, Tryd.ntmps21
 go_wp2_with (first | ((with_reducible refine gate_callee (f := 45) rfl ?_); refine goesL_ (some 4) rfl rfl Tryd.func45 (by kernel_rfl) rfl #[.string a0, .string (⟨#[13]⟩ : ByteArray), .string (⟨#[]⟩ : ByteArray)] rfl (by (try simp only [List.map_toArray, List.map_cons, List.map_nil]); first | done | rfl | (simp only [List.length_drop, List.length_take]; rfl)) ?_; (with_reducible refine (strings_ReplaceAll.calls a0 (⟨#[13]⟩ : ByteArray) (⟨#[]⟩ : ByteArray) t139 _ A2.out).mono ?_); rintro e w5 ⟨rfl, hb⟩; refine ⟨_, rfl, ?_⟩; have n0_ := Aside0.mk (below_step (by repeat (first | (with_reducible first | exact HB.out | apply below_alloc | apply pw_below_drewN | apply below_drew1) | exact HB.out)) hb); clear HB; have HB := n0_; clear n0_; (try clear hb); (try clear hb2); (try clear hk); (try clear hi)) | ((with_reducible refine gate_callee (f := 45) rfl ?_); refine goesL_ (some 5) rfl rfl Tryd.func45 (by kernel_rfl) rfl #[.string t139, .string (⟨#[10]⟩ : ByteArray), .string (⟨#[]⟩ : ByteArray)] rfl (by (try simp only [List.map_toArray, List.map_cons, List.map_nil]); first | done | rfl | (simp only [List.length_drop, List.length_take]; rfl)) ?_; (with_reducible refine (strings_ReplaceAll.calls t139 (⟨#[10]⟩ : ByteArray) (⟨#[]⟩ : ByteArray) t140 _ A3.out).mono ?_); rintro e w6 ⟨rfl, hb⟩; refine ⟨_, rfl, ?_⟩; have n0_ := Aside0.mk (below_step (by repeat (first | (with_reducible first | exact HB.out | apply below_alloc | apply pw_below_drewN | apply below_drew1) | exact HB.out)) hb); clear HB; have HB := n0_; clear n0_; (try clear hb); (try clear hb2); (try clear hk); (try clear hi)) | ((with_reducible refine gate_callee (f := 46) rfl ?_); refine goesL_ (some 7) rfl rfl Tryd.func46 (by kernel_rfl) rfl #[.string t140, .string (⟨#[32, 9]⟩ : ByteArray)] rfl (by (try simp only [List.map_toArray, List.map_cons, List.map_nil]); first | done | rfl | (simp only [List.length_drop, List.length_take]; rfl)) ?_; (with_reducible refine (strings_Trim.calls t140 (⟨#[32, 9]⟩ : ByteArray) t141 _ A4.out).mono ?_); rintro e w7 ⟨rfl, hb⟩; refine ⟨_, rfl, ?_⟩; have n0_ := Aside0.mk (below_step (by repeat (first | (with_reducible first | exact HB.out | apply below_alloc | apply pw_below_drewN | apply below_drew1) | exact HB.out)) hb); clear HB; have HB := n0_; clear n0_; (try clear hb); (try clear hb2); (try clear hk); (try clear hi)))
 go_ret
 exact ⟨by first | rfl | (simp [errW_none, errW_some] <;> rfl) | (simp [*, errW_none, errW_some] <;> rfl), by repeat (first | (with_reducible first | exact HB.out | apply below_alloc | apply pw_below_drewN | apply below_drew1) | exact HB.out)⟩
def words_Lower.f (a0 : ByteArray) : Option ByteArray := if a0.size ≤ 9223372036854775807 then some ⟨(lowL a0.data.toList).toArray⟩ else none
set_option maxHeartbeats 1000000 in
set_option maxRecDepth 100000 in
theorem words_Lower.calls (a0 r : ByteArray) (w : World) (h : words_Lower.f a0 = some r) :
  Calls Tryd.prog 74 #[.string a0] w fun e w' => e = .returned (.string r) ∧ Below w.heap.size w w' := by
 unfold words_Lower.f at h
 split at h
 case isFalse => cases h
 rename_i hs
 injection h with h
 have kb := fun W => print_bytes (P := Tryd.prog) 9 61 5 Tryd.underlying9 Tryd.underlying61 Tryd.underlying5 a0 W
 have HS := Aside0.mk h
 clear h
 go_enter Tryd.func74, Tryd.ntmps74
 go_wp2
 go_loopw [10] (fun v wr => ∃ k : Nat, k ≤ a0.size ∧ v = .int .i64 k ∧ Aside0 (ConvInv lowC a0 w.heap.size 5 k wr) ∧ Aside0 (Below w.heap.size w wr)) (fun v _ => a0.size - (intOf v).toNat)
 case atStart => exact ⟨0, Nat.zero_le _, rfl, ⟨ConvInv.start lowC w 5 a0⟩, ⟨bytes_below (Below.refl _ _) (Nat.le_refl _) 5 a0⟩⟩
 case round =>
  obtain ⟨k, hk, rfl, HI, HB⟩ := hrel
  clear kb
  by_cases hlt : k < a0.size
  ·
   obtain ⟨hc, hf⟩ := HI.out.cell hlt
   obtain ⟨c, hcc⟩ : ∃ c : Int, c = (a0[k].toNat : Int) := ⟨_, rfl⟩
   rw [← hcc] at hc
   have hc0 : 0 ≤ c := by omega
   have hc1 : c ≤ 255 := by have := a0[k].toNat_lt; omega
   have HC := Aside0.mk hcc
   clear hcc
   by_cases h1 : 65 ≤ c
   ·
    by_cases h2 : c ≤ 90
    ·
     have hp : ConvInv lowC a0 w.heap.size 5 (k + 1) (wr.setCell ⟨w.heap.size, k, none⟩ (.int .u8 (c + 32))) := by
      refine HI.out.put hlt (c + 32) ?_
      have h3 := HC.out
      have h4 : lowC a0[k] = a0[k] + 32 := by
       unfold lowC
       rw [if_pos ⟨UInt8.le_iff_toNat_le.2 (by simp; omega), UInt8.le_iff_toNat_le.2 (by simp; omega)⟩]
      rw [h4, UInt8.toNat_add, h3]
      simp; omega
     have HP := Aside0.mk hp
     clear hp
     have HB2 := Aside0.mk (HB.out.setCell (p := ⟨w.heap.size, k, none⟩) (Nat.le_refl _) (.int .u8 (c + 32)))
     go_wp2
     go_roundw
     case rel => exact ⟨k + 1, by omega, by go_num, HP, HB2⟩
     case measure => simp [intOf]; omega
    ·
     have hp : ConvInv lowC a0 w.heap.size 5 (k + 1) wr := by
      refine HI.out.same hlt ?_
      have h3 := HC.out
      unfold lowC
      rw [if_neg (fun h => h2 (by have := UInt8.le_iff_toNat_le.1 h.2; simp at this; omega))]
     have HP := Aside0.mk hp
     clear hp
     go_wp2
     go_roundw
     case rel => exact ⟨k + 1, by omega, by go_num, HP, HB⟩
     case measure => simp [intOf]; omega
   ·
    have hp : ConvInv lowC a0 w.heap.size 5 (k + 1) wr := by
     refine HI.out.same hlt ?_
     have h3 := HC.out
     unfold lowC
     rw [if_neg (fun h => h1 (by have := UInt8.le_iff_toNat_le.1 h.1; simp at this; omega))]
    have HP := Aside0.mk hp
    clear hp
    go_wp2
    go_roundw
    case rel => exact ⟨k + 1, by omega, by go_num, HP, HB⟩
    case measure => simp [intOf]; omega
  ·
   obtain rfl : k = a0.size := by omega
   have hcv : ∀ c : Nat, (convert 61 9 (.slice (some ⟨w.heap.size, 0, none⟩) a0.size c)).run Tryd.prog wr = .ok (.string r) wr := by
    intro c
    rw [← HS.out, lowL, ← strOf_map]
    exact string_of_reads (P := Tryd.prog) Tryd.underlying61 Tryd.underlying5 Tryd.underlying9 (HI.out.reads hs)
   go_wp2
   go_ret
   exact ⟨rfl, HB.out⟩
def lowS (s : ByteArray) : ByteArray := ⟨(lowL s.data.toList).toArray⟩
def header_among.f (a0 : ByteArray) (l1 : List ByteArray) : Option Bool :=
 if a0.size ≤ 9223372036854775807 then (if l1.length ≤ 9223372036854775807 then (if l1.all (fun x => decide (x.size ≤ 9223372036854775807)) = true then some (l1.any fun x => (lowS x).toList == (lowS a0).toList) else none) else none) else none
theorem low_ok (a0 : ByteArray) (w : World) (h : a0.size ≤ 9223372036854775807) :
  Calls Tryd.prog 74 #[.string a0] w fun e w' => e = .returned (.string (lowS a0)) ∧ Below w.heap.size w w' :=
 words_Lower.calls a0 (lowS a0) w (by rw [words_Lower.f, if_pos h]; rfl)
set_option maxHeartbeats 1000000 in
set_option maxRecDepth 100000 in
theorem among1_ok (n x : ByteArray) (B : Nat) (w : World) (hB : B < w.heap.size) (hc : w.cell? ⟨B, 0, none⟩ = some (.string n)) (hn : n.size ≤ 9223372036854775807) (hx : x.size ≤ 9223372036854775807) :
  Calls Tryd.prog 73 #[.string x, .pointer (some ⟨B, 0, none⟩)] w fun e w' => e = .returned (.bool ((lowS x).toList == (lowS n).toList)) ∧ Below w.heap.size w w' := by
 go_enter Tryd.func73, Tryd.ntmps73
 go_wp2_with fail
 have hcd : w.drew.cell? ⟨B, 0, none⟩ = some (.string n) := hc
 have hBd : B < w.drew.heap.size := hB
 go_region_with (go_at_call 74; first | (with_reducible refine (low_ok x _ hx).mono ?_; rintro e w1 ⟨rfl, hb1⟩; have hc1 := (hb1.cell (p := ⟨B, 0, none⟩) hBd).trans hcd) | (with_reducible refine (low_ok n _ hn).mono ?_; rintro e w2 ⟨rfl, hb2⟩))
 all_goals
  have hb3 := (Below.refl _ w).drew.trans (hb1.trans (hb2.mono hb1.size))
  have HB3 := Aside0.mk hb3
  clear hb1 hb2 hb3 hc1 hcd
  go_wp2_with fail
  go_ret
  exact ⟨rfl, HB3.out⟩
def amP (n x : ByteArray) : Bool := (lowS x).toList == (lowS n).toList
set_option maxHeartbeats 1000000 in
set_option maxRecDepth 100000 in
theorem idxFn_ok (n : ByteArray) (A : Option Addr) (c : Nat) (l : List ByteArray) (B : Nat) (w : World) (hr : Kd.C Kd.string w A l.length l) (hl : l.length ≤ 9223372036854775807) (hB : B < w.heap.size) (hc : w.cell? ⟨B, 0, none⟩ = some (.string n)) (hn : n.size ≤ 9223372036854775807) (hx : ∀ x ∈ l, x.size ≤ 9223372036854775807) :
  Calls Tryd.prog 89 #[.slice A l.length c, .func (.func 73) #[] #[.pointer (some ⟨B, 0, none⟩)]] w fun e w' => (∃ ix : Int, e = .returned (.int .i64 ix) ∧ decide (0 ≤ ix) = l.any (amP n)) ∧ Below w.heap.size w w' := by
 have HR := Aside0.mk hr
 have HX := Aside0.mk hx
 clear hr hx
 go_enter Tryd.func89, Tryd.ntmps89
 go_wp2_with fail
 go_loopg [5, 8] (l.length + 1) (fun kq _ v8 wr => ∃ kk : Nat, kk ≤ l.length ∧ l.length + 1 ≤ kk + kq ∧ v8 = .int .i64 kk ∧ Aside0 (Below w.heap.size w wr) ∧ Aside0 (l.any (amP n) = (l.drop kk).any (amP n)))
 case atStart => exact ⟨0, Nat.zero_le _, by omega, rfl, ⟨Below.refl _ w⟩, ⟨by simp⟩⟩
 case round =>
  obtain ⟨kk, hkk, hkq, rfl, HB, HA⟩ := hrel
  by_cases hp : kk < l.length
  ·
   obtain ⟨k, rfl⟩ : ∃ k, gk = k + 1 := ⟨gk - 1, by omega⟩
   have hi0 : (0 : Int) ≤ (kk : Int) := by omega
   have hi1 : (kk : Int) < (l.length : Int) := by omega
   have hi2 : decide ((kk : Int) < (l.length : Int)) = true := decide_eq_true hi1
   obtain ⟨ad, e0, hx0⟩ := Kd.at_string HR.out kk hi0 hi1
   cases e0
   replace hx0 := (HB.out.cell (World.block_lt_of_cell? w _ hx0)).trans hx0
   have hd : l.drop kk = l[kk] :: l.drop (kk + 1) := List.drop_eq_getElem_cons hp
   have hrd : rdOf ByteArray.empty l (kk : Int) = l[kk] := by simp [rdOf, hp]
   rw [hrd] at hx0
   have hs := HX.out l[kk] (List.getElem_mem hp)
   have hA := HA.out
   rw [hd, List.any_cons] at hA
   obtain ⟨x, hxx⟩ : ∃ x, x = l[kk] := ⟨_, rfl⟩
   rw [← hxx] at hx0 hs hA
   have hcB := (HB.out.cell (p := ⟨B, 0, none⟩) hB).trans hc
   have hBr := Nat.lt_of_lt_of_le hB HB.out.size
   have HC := Aside0.mk (among1_ok n x B wr hBr hcB hn hs)
   have HA2 := Aside0.mk hA
   clear hA hd hrd hxx hcB hs HA
   rw [Int.toNat_natCast] at hx0
   go_wp2_with fail
   refine HC.out.mono ?_
   rintro e w1 ⟨rfl, hb1⟩
   have HB1 := Aside0.mk (HB.out.trans (hb1.mono HB.out.size))
   clear hb1 HC HB hx0 hBr
   cases hq : amP n x with
   | true =>
    have hq2 : ((lowS x).toList == (lowS n).toList) = true := hq
    rw [hq, Bool.true_or] at HA2
    clear hq
    go_wp2_with fail
    go_ret
    exact ⟨⟨_, rfl, by rw [HA2.out]; exact decide_eq_true hi0⟩, HB1.out⟩
   | false =>
    have hq2 : ((lowS x).toList == (lowS n).toList) = false := hq
    rw [hq, Bool.false_or] at HA2
    clear hq
    go_wp2_with fail
    go_roundg k
    case measure => omega
    case rel => exact ⟨kk + 1, by omega, by omega, by go_num, HB1, HA2⟩
  ·
   have hnil : l.drop kk = [] := List.drop_eq_nil_iff.2 (by omega)
   have hA := HA.out
   rw [hnil] at hA
   have HA2 := Aside0.mk hA
   have hi1 : ¬ (kk : Int) < (l.length : Int) := by omega
   have hi2 : decide ((kk : Int) < (l.length : Int)) = false := decide_eq_false hi1
   clear hA hnil HA
   go_wp2_with fail
   go_ret
   exact ⟨⟨_, rfl, by rw [HA2.out]; rfl⟩, HB.out⟩
theorem ctnFn_ok (n : ByteArray) (A : Option Addr) (c : Nat) (l : List ByteArray) (B : Nat) (w : World) (hr : Kd.C Kd.string w A l.length l) (hl : l.length ≤ 9223372036854775807) (hB : B < w.heap.size) (hc : w.cell? ⟨B, 0, none⟩ = some (.string n)) (hn : n.size ≤ 9223372036854775807) (hx : ∀ x ∈ l, x.size ≤ 9223372036854775807) :
  Calls Tryd.prog 72 #[.slice A l.length c, .func (.func 73) #[] #[.pointer (some ⟨B, 0, none⟩)]] w fun e w' => e = .returned (.bool (l.any (amP n))) ∧ Below w.heap.size w w' := by
 have HC := Aside0.mk (idxFn_ok n A c l B w hr hl hB hc hn hx)
 clear hr hx hc
 go_enter Tryd.func72, Tryd.ntmps72
 go_wp2_with fail
 refine HC.out.mono ?_
 rintro e w1 ⟨⟨ix, rfl, hix⟩, hb1⟩
 have HX := Aside0.mk hix
 have HB := Aside0.mk hb1
 clear hb1 hix HC
 go_wp2_with fail
 go_ret
 exact ⟨by rw [← HX.out]; rfl, HB.out⟩
theorem header_among.calls (a0 : ByteArray) (A1 : Option Addr) (c1 : Nat) (l1 : List ByteArray) (r : Bool) (w : World) (hr1 : Kd.C Kd.string w A1 l1.length l1) (hc1 : l1.length ≤ c1) (h : header_among.f a0 l1 = some r) :
  Calls Tryd.prog 48 #[.string a0, .slice A1 l1.length c1] w fun e w' => e = .returned (.bool r) ∧ Below w.heap.size w w' := by
 unfold header_among.f at h
 split at h
 case isFalse => cases h
 rename_i h1
 split at h
 case isFalse => cases h
 rename_i h2
 split at h
 case isFalse => cases h
 rename_i h3
 injection h with h
 have hb0 := (Below.refl w.heap.size w).alloc (Nat.le_refl _) (.cells #[.string a0] 9)
 have HC := Aside0.mk (ctnFn_ok a0 A1 c1 l1 w.heap.size (w.alloc (.cells #[.string a0] 9)) (Kd.C_below hr1 hb0) h2 (by simp) (by simp) h1 (fun x hx => of_decide_eq_true (List.all_eq_true.1 h3 x hx)))
 have H := Aside0.mk h
 have HB0 := Aside0.mk hb0
 clear hr1 h h1 h2 h3 hb0
 go_enter Tryd.func48, Tryd.ntmps48
 go_wp2_with fail
 refine HC.out.mono ?_
 rintro e w1 ⟨rfl, hb1⟩
 have HB := Aside0.mk (HB0.out.trans (hb1.mono HB0.out.size))
 clear hb1 HC
 go_wp2_with fail
 go_ret
 exact ⟨by rw [← H.out]; rfl, HB.out⟩
end Go.Proofs.YtkngjdhggcaonaaDoor.PP
namespace Go.Proofs.YtkngjdhggcaonaaDoor.PP
open Go.RowKit Go.Proofs.YtkngjdhggcaonaaDoorW.PrintWords Go.Proofs.YtkngjdhggcaonaaDoorW.PrintLast Go.Proofs.YtkngjdhggcaonaaDoorW.PrintMore
attribute [local go_sem] max2_int min2_int max_two min_two max_three min_three max_four min_four   -- for this text's walks alone
open Go.Proofs.YtkngjdhggcaonaaDoor.My
set_option linter.unusedVariables false
set_option linter.unusedSimpArgs false
def header_Get.l0 : Nat → List ByteArray → List ByteArray → List (S37) → Int → Int → Option (List ByteArray)
 | 0, _, _, _, _, _ => none
 | k + 1, x1, x5, x8, x9, x10 => if x10 < x9 then (if 0 ≤ x10 then (if x10 < (x8.length : Int) then ((header_among.f ((rd_T37 x8 x10).f0) x1).bind fun t144 => (if t144 = true then ((header_Unfold.f ((rd_T37 x8 x10).f1)).bind fun t145 => (if x5.length < 8796093022208 then (header_Get.l0 k x1 (x5 ++ [t145]) x8 x9 (wrap64 (x10 + 1))) else (none))) else (header_Get.l0 k x1 x5 x8 x9 (wrap64 (x10 + 1))))) else (none)) else (none)) else (some x5)
def header_Get.f (k : Nat) (l0 : List (S37)) (l1 : List ByteArray) : Option (List ByteArray) := header_Get.l0 k l1 ([] : List ByteArray) l0 (l0.length : Int) 0
theorem header_Get.mono_l : ∀ k, (∀ y0 y1 y2 y3 y4, LeO (header_Get.l0 k y0 y1 y2 y3 y4) (header_Get.l0 (k + 1) y0 y1 y2 y3 y4))
 | 0 => fun _ _ _ _ _ r h => by simp [header_Get.l0] at h
 | k + 1 => by
  have ih0 := header_Get.mono_l k
  ·
   intro y0 y1 y2 y3 y4
   unfold header_Get.l0
   repeat' first
   | (with_reducible exact ih0 _ _ _ _ _)
   | (with_reducible exact LeO.refl _)
   | (with_reducible exact LeO.none _)
   | (with_reducible refine LeO.ite ?_ ?_)
   | (with_reducible refine LeO.bind ?_ (fun _ => ?_))
   | exact ih0 _ _ _ _ _
   | exact LeO.none _
   | refine LeO.ite ?_ ?_
   | refine LeO.bind ?_ (fun _ => ?_)
theorem header_Get.mono : ∀ a0 a1 k, LeO (header_Get.f k a0 a1) (header_Get.f (k + 1) a0 a1) := by
 intro a0 a1 k
 have ih0 := header_Get.mono_l k
 unfold header_Get.f
 repeat' first
   | (with_reducible exact ih0 _ _ _ _ _)
   | (with_reducible exact LeO.refl _)
   | (with_reducible exact LeO.none _)
   | (with_reducible refine LeO.ite ?_ ?_)
   | (with_reducible refine LeO.bind ?_ (fun _ => ?_))
   | exact ih0 _ _ _ _ _
   | exact LeO.none _
   | refine LeO.ite ?_ ?_
   | refine LeO.bind ?_ (fun _ => ?_)
set_option maxHeartbeats 8000000 in
set_option maxRecDepth 100000 in
theorem header_Get.calls (k : Nat) (A0 : Option Addr) (c0 : Nat) (l0 : List (S37)) (A1 : Option Addr) (c1 : Nat) (l1 : List ByteArray) (r : List ByteArray) (w : World) (hr0 : Kd.C k37 w A0 l0.length l0) (hc0 : l0.length ≤ c0) (hr1 : Kd.C Kd.string w A1 l1.length l1) (hc1 : l1.length ≤ c1) (h : header_Get.f k l0 l1 = some r) :
  Calls Tryd.prog 24 #[.slice A0 l0.length c0, .slice A1 l1.length c1] w fun e w' => ∃ v0_ : Value, e = .returned (v0_) ∧ Kd.R Kd.string 9 w' w.heap.size (fun _ => True) v0_ r ∧ Below w.heap.size w w' := by
 have hu37 := Tryd.underlying37
 have HR0 := Aside0.mk hr0
 have HC0 := Aside0.mk hc0
 clear hr0 hc0
 have HR1 := Aside0.mk hr1
 have HC1 := Aside0.mk hc1
 clear hr1 hc1
 have HB := Aside0.mk (Below.refl w.heap.size w)
 have H : (header_Get.l0 k l1 ([] : List ByteArray) l0 (l0.length : Int) 0) = some r := h
 clear h
 have H' := Aside0.mk H
 clear H
 go_enter Tryd.func24, Tryd.ntmps24
 go_wp2
 go_loopg [5, 10] k (fun kq v5 v10 w' => ∃ (x5_1 : List ByteArray) (x10_1 : Int), v10 = .int .i64 x10_1 ∧ Aside0 (header_Get.l0 kq l1 x5_1 l0 (l0.length : Int) x10_1 = some r) ∧ Aside0 (kq ≤ k) ∧ Aside0 (Kd.R Kd.string 9 w' w.heap.size (fun _ => True) v5 x5_1) ∧ Aside0 (Below w.heap.size w w'))
 case atStart => exact ⟨(([] : List ByteArray)), (0), (by first | with_reducible rfl | (simp only [pps, Nat.reduceAdd, Int.toNat_natCast]; done) | rfl | (simp; done) | (simp [*]; done)), H', ⟨Nat.le_refl _⟩, ⟨by first | exact Kd.R_nil _ _ _ _ _ | exact Kd.N_nil _ _ _ _ _ | exact Kd.V_nil _ _ _ _ _ | exact Kd.Q_nil _ _ _ _ _ | exact Kd.S_nil _ _ _ _ _⟩, ⟨by repeat (first | (with_reducible first | exact HB.out | apply below_alloc | apply pw_below_drewN | apply below_drew1) | exact HB.out)⟩⟩
 case round =>
  clear H'
  try clear c1
  try clear c2
  try clear p2
  obtain ⟨x5_1, x10_1, rfl, HA, HK1, HO_5, HB⟩ := hrel
  cases gk with
  | zero => exact absurd HA.out (by simp [header_Get.l0])
  | succ k1 =>
   have H := HA.out
   clear HA
   simp only [header_Get.l0] at H
   by_cases c3 : x10_1 < (l0.length : Int)
   ·
    rw [if_pos c3] at H
    have c3b0 : decide (x10_1 < (l0.length : Int)) = true := decide_eq_true c3
    clear c3
    by_cases c4 : 0 ≤ x10_1
    ·
     rw [if_pos c4] at H
     have c4b0 : decide (0 ≤ x10_1) = true := decide_eq_true c4
     clear c4
     by_cases c5 : x10_1 < (l0.length : Int)
     ·
      rw [if_pos c5] at H
      have c5b0 : decide (x10_1 < (l0.length : Int)) = true := decide_eq_true c5
      clear c5
      replace H := Option.bind_eq_some_iff.mp H
      obtain ⟨t144, A60, H⟩ := H
      replace H : (if t144 = true then ((header_Unfold.f ((rd_T37 l0 x10_1).f1)).bind fun t145 => (if x5_1.length < 8796093022208 then (header_Get.l0 k1 l1 (x5_1 ++ [t145]) l0 (l0.length : Int) (wrap64 (x10_1 + 1))) else (none))) else (header_Get.l0 k1 l1 x5_1 l0 (l0.length : Int) (wrap64 (x10_1 + 1)))) = some r := H
      have A6 := Aside0.mk A60
      clear A60
      by_cases c7 : t144 = true
      ·
       subst c7
       have H1 : ((header_Unfold.f ((rd_T37 l0 x10_1).f1)).bind fun t145 => (if x5_1.length < 8796093022208 then (header_Get.l0 k1 l1 (x5_1 ++ [t145]) l0 (l0.length : Int) (wrap64 (x10_1 + 1))) else (none))) = some r := by rw [if_pos rfl] at H; exact H
       clear H
       have H := H1
       clear H1
       replace H := Option.bind_eq_some_iff.mp H
       obtain ⟨t145, A80, H⟩ := H
       replace H : (if x5_1.length < 8796093022208 then (header_Get.l0 k1 l1 (x5_1 ++ [t145]) l0 (l0.length : Int) (wrap64 (x10_1 + 1))) else (none)) = some r := H
       have A8 := Aside0.mk A80
       clear A80
       by_cases c9 : x5_1.length < 8796093022208
       ·
        rw [if_pos c9] at H
        have LMc9 := Aside0.mk c9
        clear c9
        obtain ⟨y146, hy146⟩ : ∃ y_ : List ByteArray, y_ = (x5_1 ++ [t145]) := ⟨_, rfl⟩
        replace H : (header_Get.l0 k1 l1 y146 l0 (l0.length : Int) (wrap64 (x10_1 + 1))) = some r := by first | (rw [hy146]; with_reducible exact H) | (have H2_ := (Option.bind_some _ _).symm.trans H; rw [hy146]; with_reducible exact H2_) | (have H2_ := (Option.bind_some _ _).symm.trans H; with_reducible exact H2_) | with_reducible exact H | (rw [hy146]; exact H) | exact H
        have Ny146 := Aside0.mk hy146
        clear hy146
        have H' := Aside0.mk H
        clear H
        have p142 : 0 ≤ (x10_1 : Int) := of_decide_eq_true (by first | (with_reducible assumption) | assumption)
        have q142 : x10_1 < (l0.length : Int) := of_decide_eq_true (by first | (with_reducible assumption) | assumption)
        obtain ⟨ad142, e142, hx142_0, hx142_1⟩ := at_T37 HR0.out x10_1 p142 q142
        cases e142
        replace hx142_0 := (HB.out.cell (World.block_lt_of_cell? w _ hx142_0)).trans hx142_0
        replace hx142_1 := (HB.out.cell (World.block_lt_of_cell? w _ hx142_1)).trans hx142_1
        replace p142 := eq_true p142
        replace q142 := eq_true q142
        go_wp2_with (first | ((with_reducible refine gate_dst (N := 7) rfl ?_); refine box_event ?hg (N := 7) ?hd (cs := #[.string (⟨#[]⟩ : ByteArray), .string (⟨#[]⟩ : ByteArray)]) (t := 37) ?hr ?_; (case hd => rfl); (case hg => rfl); (case hr => first | (go_simp; done) | (go_simp; rfl)); intro gb143 hg w10 hbox hb; have n0_ := Aside0.mk (Kd.R_below (by (with_reducible repeat (first | apply Kd.R_alloc | apply Kd.R_drewN | apply Kd.R_drew)); exact HO_5.out) hb); have n1_ := Aside0.mk (below_step (by repeat (first | (with_reducible first | exact HB.out | apply below_alloc | apply pw_below_drewN | apply below_drew1) | exact HB.out)) hb); have n2_ := Aside0.mk (hbox); have n3_ := Aside0.mk ((by rw [hg]; exact (below_size (by repeat (first | (with_reducible first | exact HB.out | apply below_alloc | apply pw_below_drewN | apply below_drew1) | exact HB.out))) : w.heap.size ≤ gb143)); have n4_ := Aside0.mk ((by rw [hg]; exact (below_size (by repeat (first | (with_reducible first | exact HB.out | apply below_alloc | apply pw_below_drewN | apply below_drew1) | exact HB.out))) : w.heap.size ≤ gb143)); clear HO_5; clear HB; have HO_5 := n0_; have HB := n1_; have BK143 := n2_; have GW143 := n3_; have GE143 := n4_; clear n0_ n1_ n2_ n3_ n4_; clear hb hbox hg; have hcz11_0 : w10.cell? ⟨gb143, 0, none⟩ = some (.string (⟨#[]⟩ : ByteArray)) := (blk_cell BK143.out 0).trans rfl; have hcz11_1 : w10.cell? ⟨gb143, 1, none⟩ = some (.string (⟨#[]⟩ : ByteArray)) := (blk_cell BK143.out 1).trans rfl; have hfz11_0 := blk_frozen BK143.out 0; have hfz11_1 := blk_frozen BK143.out 1) | ((with_reducible refine gate_callee (f := 48) rfl ?_); refine goesL_ (some 17) rfl rfl Tryd.func48 (by kernel_rfl) rfl #[.string ((rd_T37 l0 x10_1).f0), .slice A1 l1.length c1] rfl (by (try simp only [List.map_toArray, List.map_cons, List.map_nil]); first | done | rfl | (simp only [List.length_drop, List.length_take]; rfl)) ?_; (with_reducible refine (header_among.calls ((rd_T37 l0 x10_1).f0) _ _ l1 true _ ?side1 ?side2 A6.out).mono ?_); (case side1 => exact Kd.C_below HR1.out (by repeat (first | (with_reducible first | exact HB.out | apply below_alloc | apply pw_below_drewN | apply below_drew1 | refine below_set ?_ GE143.out) | exact HB.out))); (case side2 => exact HC1.out); rintro e w12 ⟨rfl, hb⟩; refine ⟨_, rfl, ?_⟩; have n0_ := Aside0.mk (Kd.R_below (by (with_reducible repeat (first | apply Kd.R_alloc | apply Kd.R_drewN | apply Kd.R_drew)); exact (Kd.R_mono (Kd.R_far (p := ⟨gb143, 1, none⟩) (Kd.R_far (p := ⟨gb143, 0, none⟩) (Kd.R_types HO_5.out BK143.out (by decide)) (fun _ hk => hk.2) (.string ((rd_T37 l0 x10_1).f0))) (fun _ hk => hk.2) (.string ((rd_T37 l0 x10_1).f1))) (fun _ h_ => h_.1))) hb); have n1_ := Aside0.mk (blk_below (g := gb143) (o := .cells #[.string ((rd_T37 l0 x10_1).f0), .string ((rd_T37 l0 x10_1).f1)] 37 (0, 0)) (by (with_reducible repeat (first | refine blk_drewN ?_ _ | refine blk_drew ?_ | refine blk_alloc ?_ _)); refine blk_put (cs := #[.string ((rd_T37 l0 x10_1).f0), .string (⟨#[]⟩ : ByteArray)]) ?_ 1 _ rfl; (with_reducible repeat (first | refine blk_drewN ?_ _ | refine blk_drew ?_ | refine blk_alloc ?_ _)); refine blk_put (cs := #[.string (⟨#[]⟩ : ByteArray), .string (⟨#[]⟩ : ByteArray)]) ?_ 0 _ rfl; (with_reducible repeat (first | refine blk_drewN ?_ _ | refine blk_drew ?_ | refine blk_alloc ?_ _)); exact BK143.out) hb); have n2_ := Aside0.mk (below_step (by repeat (first | (with_reducible first | exact HB.out | apply below_alloc | apply pw_below_drewN | apply below_drew1 | refine below_set ?_ GE143.out) | exact HB.out)) hb); clear HO_5; clear BK143; clear HB; have HO_5 := n0_; have BK143 := n1_; have HB := n2_; clear n0_ n1_ n2_; (try clear hb); (try clear hb2); (try clear hk); (try clear hi); have hcz13_0 : w12.cell? ⟨gb143, 0, none⟩ = some (.string ((rd_T37 l0 x10_1).f0)) := (blk_cell BK143.out 0).trans rfl; have hcz13_1 : w12.cell? ⟨gb143, 1, none⟩ = some (.string ((rd_T37 l0 x10_1).f1)) := (blk_cell BK143.out 1).trans rfl; have hfz13_0 := blk_frozen BK143.out 0; have hfz13_1 := blk_frozen BK143.out 1) | ((with_reducible refine gate_callee (f := 21) rfl ?_); refine goesL_ (some 21) rfl rfl Tryd.func21 (by kernel_rfl) rfl #[.string ((rd_T37 l0 x10_1).f1)] rfl (by (try simp only [List.map_toArray, List.map_cons, List.map_nil]); first | done | rfl | (simp only [List.length_drop, List.length_take]; rfl)) ?_; (with_reducible refine (header_Unfold.calls ((rd_T37 l0 x10_1).f1) t145 _ A8.out).mono ?_); rintro e w14 ⟨rfl, hb⟩; refine ⟨_, rfl, ?_⟩; have n0_ := Aside0.mk (Kd.R_below (by (with_reducible repeat (first | apply Kd.R_alloc | apply Kd.R_drewN | apply Kd.R_drew)); exact HO_5.out) hb); have n1_ := Aside0.mk (blk_below (g := gb143) (o := .cells #[.string ((rd_T37 l0 x10_1).f0), .string ((rd_T37 l0 x10_1).f1)] 37 (0, 0)) (by (with_reducible repeat (first | refine blk_drewN ?_ _ | refine blk_drew ?_ | refine blk_alloc ?_ _)); exact BK143.out) hb); have n2_ := Aside0.mk (below_step (by repeat (first | (with_reducible first | exact HB.out | apply below_alloc | apply pw_below_drewN | apply below_drew1 | refine below_set ?_ GE143.out) | exact HB.out)) hb); clear HO_5; clear BK143; clear HB; have HO_5 := n0_; have BK143 := n1_; have HB := n2_; clear n0_ n1_ n2_; (try clear hb); (try clear hb2); (try clear hk); (try clear hi)) | ((with_reducible refine gate_builtin (b := .append) (xs := #[.tmp 18, .tmp 22]) rfl ?_); at_builtin; refine Kd.R_append Kd.string (w0 := w) w.heap.size rfl (.tmp 18) (.tmp 22) 35 9 (.string ⟨#[]⟩) 16 rfl Tryd.underlying35 info9 rfl (by decide) (by omega) u5 x5_1 t145 [.string t145] (fun _ => True) (fun _ => False) rfl rfl ?aP (fun _ hk => hk.elim) ?aF ?aO ?aB ?aS ?aL ?_; (case aP => exact rfl); (case aB => exact (by repeat (first | (with_reducible first | exact HB.out | apply below_alloc | apply pw_below_drewN | apply below_drew1 | refine below_set ?_ GE143.out) | exact HB.out))); (case aF => exact (fun _ _ => trivial)); (case aO => exact (by (with_reducible repeat (first | apply Kd.R_alloc | apply Kd.R_drewN | apply Kd.R_drew)); exact HO_5.out)); (case aS => exact (below_size (by repeat (first | (with_reducible first | exact HB.out | apply below_alloc | apply pw_below_drewN | apply below_drew1 | refine below_set ?_ GE143.out) | exact HB.out)))); (case aL => have := LMc9.out; omega); intro v147 w15 ho hb hg hat; rw [← Ny146.out] at ho; have n0_ := Aside0.mk (blk_grown (g := gb143) (o := .cells #[.string ((rd_T37 l0 x10_1).f0), .string ((rd_T37 l0 x10_1).f1)] 37 (0, 0)) (by (with_reducible repeat (first | refine blk_drewN ?_ _ | refine blk_drew ?_ | refine blk_alloc ?_ _)); exact BK143.out) hg (Kd.R_ne HO_5.out BK143.out (by decide))); have n1_ := Aside0.mk (hb); have n2_ := Aside0.mk (ho); clear BK143; clear HB; clear HO_5; have BK143 := n0_; have HB := n1_; have HO148 := n2_; clear n0_ n1_ n2_; clear ho hb hg hat))
        go_roundg k1
        case measure => have := HK1.out; omega
        case rel => exact ⟨(y146), (wrap64 (x10_1 + 1)), (by first | with_reducible rfl | (simp only [pps, Nat.reduceAdd, Int.toNat_natCast]; done) | rfl | (simp; done) | (simp [*]; done)), H', ⟨by have := HK1.out; omega⟩, ⟨by (with_reducible repeat (first | apply Kd.R_alloc | apply Kd.R_drewN | apply Kd.R_drew)); exact HO148.out⟩, ⟨by repeat (first | (with_reducible first | exact HB.out | apply below_alloc | apply pw_below_drewN | apply below_drew1 | refine below_set ?_ GE143.out) | exact HB.out)⟩⟩
       ·
        rw [if_neg c9] at H
        exact absurd H (by simp)
      ·
       replace c7 := Bool.eq_false_iff.mpr c7
       subst c7
       have H1 : (header_Get.l0 k1 l1 x5_1 l0 (l0.length : Int) (wrap64 (x10_1 + 1))) = some r := by rw [if_neg (show ¬ (false = true) by decide)] at H; exact H
       clear H
       have H := H1
       clear H1
       have H' := Aside0.mk H
       clear H
       have p142 : 0 ≤ (x10_1 : Int) := of_decide_eq_true (by first | (with_reducible assumption) | assumption)
       have q142 : x10_1 < (l0.length : Int) := of_decide_eq_true (by first | (with_reducible assumption) | assumption)
       obtain ⟨ad142, e142, hx142_0, hx142_1⟩ := at_T37 HR0.out x10_1 p142 q142
       cases e142
       replace hx142_0 := (HB.out.cell (World.block_lt_of_cell? w _ hx142_0)).trans hx142_0
       replace hx142_1 := (HB.out.cell (World.block_lt_of_cell? w _ hx142_1)).trans hx142_1
       replace p142 := eq_true p142
       replace q142 := eq_true q142
       go_wp2_with (first | ((with_reducible refine gate_dst (N := 7) rfl ?_); refine box_event ?hg (N := 7) ?hd (cs := #[.string (⟨#[]⟩ : ByteArray), .string (⟨#[]⟩ : ByteArray)]) (t := 37) ?hr ?_; (case hd => rfl); (case hg => rfl); (case hr => first | (go_simp; done) | (go_simp; rfl)); intro gb143 hg w16 hbox hb; have n0_ := Aside0.mk (Kd.R_below (by (with_reducible repeat (first | apply Kd.R_alloc | apply Kd.R_drewN | apply Kd.R_drew)); exact HO_5.out) hb); have n1_ := Aside0.mk (below_step (by repeat (first | (with_reducible first | exact HB.out | apply below_alloc | apply pw_below_drewN | apply below_drew1) | exact HB.out)) hb); have n2_ := Aside0.mk (hbox); have n3_ := Aside0.mk ((by rw [hg]; exact (below_size (by repeat (first | (with_reducible first | exact HB.out | apply below_alloc | apply pw_below_drewN | apply below_drew1) | exact HB.out))) : w.heap.size ≤ gb143)); have n4_ := Aside0.mk ((by rw [hg]; exact (below_size (by repeat (first | (with_reducible first | exact HB.out | apply below_alloc | apply pw_below_drewN | apply below_drew1) | exact HB.out))) : w.heap.size ≤ gb143)); clear HO_5; clear HB; have HO_5 := n0_; have HB := n1_; have BK143 := n2_; have GW143 := n3_; have GE143 := n4_; clear n0_ n1_ n2_ n3_ n4_; clear hb hbox hg; have hcz17_0 : w16.cell? ⟨gb143, 0, none⟩ = some (.string (⟨#[]⟩ : ByteArray)) := (blk_cell BK143.out 0).trans rfl; have hcz17_1 : w16.cell? ⟨gb143, 1, none⟩ = some (.string (⟨#[]⟩ : ByteArray)) := (blk_cell BK143.out 1).trans rfl; have hfz17_0 := blk_frozen BK143.out 0; have hfz17_1 := blk_frozen BK143.out 1) | ((with_reducible refine gate_callee (f := 48) rfl ?_); refine goesL_ (some 17) rfl rfl Tryd.func48 (by kernel_rfl) rfl #[.string ((rd_T37 l0 x10_1).f0), .slice A1 l1.length c1] rfl (by (try simp only [List.map_toArray, List.map_cons, List.map_nil]); first | done | rfl | (simp only [List.length_drop, List.length_take]; rfl)) ?_; (with_reducible refine (header_among.calls ((rd_T37 l0 x10_1).f0) _ _ l1 false _ ?side1 ?side2 A6.out).mono ?_); (case side1 => exact Kd.C_below HR1.out (by repeat (first | (with_reducible first | exact HB.out | apply below_alloc | apply pw_below_drewN | apply below_drew1 | refine below_set ?_ GE143.out) | exact HB.out))); (case side2 => exact HC1.out); rintro e w18 ⟨rfl, hb⟩; refine ⟨_, rfl, ?_⟩; have n0_ := Aside0.mk (Kd.R_below (by (with_reducible repeat (first | apply Kd.R_alloc | apply Kd.R_drewN | apply Kd.R_drew)); exact (Kd.R_mono (Kd.R_far (p := ⟨gb143, 1, none⟩) (Kd.R_far (p := ⟨gb143, 0, none⟩) (Kd.R_types HO_5.out BK143.out (by decide)) (fun _ hk => hk.2) (.string ((rd_T37 l0 x10_1).f0))) (fun _ hk => hk.2) (.string ((rd_T37 l0 x10_1).f1))) (fun _ h_ => h_.1))) hb); have n1_ := Aside0.mk (blk_below (g := gb143) (o := .cells #[.string ((rd_T37 l0 x10_1).f0), .string ((rd_T37 l0 x10_1).f1)] 37 (0, 0)) (by (with_reducible repeat (first | refine blk_drewN ?_ _ | refine blk_drew ?_ | refine blk_alloc ?_ _)); refine blk_put (cs := #[.string ((rd_T37 l0 x10_1).f0), .string (⟨#[]⟩ : ByteArray)]) ?_ 1 _ rfl; (with_reducible repeat (first | refine blk_drewN ?_ _ | refine blk_drew ?_ | refine blk_alloc ?_ _)); refine blk_put (cs := #[.string (⟨#[]⟩ : ByteArray), .string (⟨#[]⟩ : ByteArray)]) ?_ 0 _ rfl; (with_reducible repeat (first | refine blk_drewN ?_ _ | refine blk_drew ?_ | refine blk_alloc ?_ _)); exact BK143.out) hb); have n2_ := Aside0.mk (below_step (by repeat (first | (with_reducible first | exact HB.out | apply below_alloc | apply pw_below_drewN | apply below_drew1 | refine below_set ?_ GE143.out) | exact HB.out)) hb); clear HO_5; clear BK143; clear HB; have HO_5 := n0_; have BK143 := n1_; have HB := n2_; clear n0_ n1_ n2_; (try clear hb); (try clear hb2); (try clear hk); (try clear hi)))
       go_roundg k1
       case measure => have := HK1.out; omega
       case rel => exact ⟨(x5_1), (wrap64 (x10_1 + 1)), (by first | with_reducible rfl | (simp only [pps, Nat.reduceAdd, Int.toNat_natCast]; done) | rfl | (simp; done) | (simp [*]; done)), H', ⟨by have := HK1.out; omega⟩, ⟨by (with_reducible repeat (first | apply Kd.R_alloc | apply Kd.R_drewN | apply Kd.R_drew)); exact HO_5.out⟩, ⟨by repeat (first | (with_reducible first | exact HB.out | apply below_alloc | apply pw_below_drewN | apply below_drew1 | refine below_set ?_ GE143.out) | exact HB.out)⟩⟩
     ·
      rw [if_neg c5] at H
      exact absurd H (by simp)
    ·
     rw [if_neg c4] at H
     exact absurd H (by simp)
   ·
    rw [if_neg c3] at H
    have c3b0 : decide (x10_1 < (l0.length : Int)) = false := decide_eq_false c3
    clear c3
    obtain rfl := Option.some.inj H
    go_wp2
    go_ret
    exact ⟨_, by first | rfl | (simp [errW_none, errW_some] <;> rfl) | (simp [*, errW_none, errW_some] <;> rfl), by (with_reducible repeat (first | apply Kd.R_alloc | apply Kd.R_drewN | apply Kd.R_drew)); exact HO_5.out, by repeat (first | (with_reducible first | exact HB.out | apply below_alloc | apply pw_below_drewN | apply below_drew1) | exact HB.out)⟩
end Go.Proofs.YtkngjdhggcaonaaDoor.PP
