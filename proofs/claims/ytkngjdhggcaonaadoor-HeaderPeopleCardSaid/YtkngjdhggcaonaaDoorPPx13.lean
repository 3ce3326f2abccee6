-- PRINTED by print.py (a twelfth state) out of the translation. Not trusted: Lean checks it.
import Derived.Test.YtkngjdhggcaonaaDoorPPx0
namespace Go.Proofs.YtkngjdhggcaonaaDoor.PP
open Go.RowKit Go.Proofs.YtkngjdhggcaonaaDoorW.PrintWords Go.Proofs.YtkngjdhggcaonaaDoorW.PrintLast Go.Proofs.YtkngjdhggcaonaaDoorW.PrintMore
attribute [local go_sem] max2_int min2_int max_two min_two max_three min_three max_four min_four   -- for this text's walks alone
open Go.Proofs.YtkngjdhggcaonaaDoor.My
set_option linter.unusedVariables false
set_option linter.unusedSimpArgs false

/-! ### strings_ReplaceAll: function 45 -/
def without (c : UInt8) (l : List UInt8) : List UInt8 := l.filter (fun b => b != c)
def strings_ReplaceAll.f (a0 a1 a2 : ByteArray) : Option ByteArray :=
 if a0.size ≤ 1000000000 then (if a1.size = 1 then (if a2.size = 0 then some ⟨(without (a1.data.toList.getD 0 0) a0.data.toList).toArray⟩ else none) else none) else none
theorem inf8b : (Tryd.prog.info? 5).map (fun i => (i.zero, i.size, i.bytes)) = some (some (.int .u8 0), 1, 1) := by kernel_rfl
set_option maxHeartbeats 2000000 in
set_option maxRecDepth 100000 in
theorem copyCheck_ok (b : Nat) (bs : List Value) (w : World) (h : Lib.IsBuilderF 81 5 b b bs w) :
  Calls Tryd.prog 76 #[.pointer (some ⟨b, 0, none⟩)] w fun e w' => e = .returned (.tuple #[]) ∧ (Lib.BuilderAtF 81 5 b b (.pointer (some ⟨b, 0, none⟩)) bs w' ∧ Kept 5 b w w') := by
 rcases h with h | h
 ·
  have c0 := h.cell0
  have f0 := h.frozen0
  have hs := h.shape
  have H := Aside0.mk h
  clear h
  go_enter Tryd.func76, Tryd.ntmps76
  obtain ⟨j, hj, hjs⟩ := Option.map_eq_some_iff.1 Tryd.bx169.sizeBuilder
  go_wp2
  rw [Lib.run_to_unsafe w ⟨b, 0, none⟩ Tryd.underlying79 Tryd.underlying112 hj (by rw [hjs]; decide) hs (Nat.zero_lt_succ 1)]
  simp only [Result.andThen]
  rw [Oper.upon_value]
  go_wp2
  rw [run_callFunc_extern Tryd.func90 (by kernel_rfl) (by kernel_rfl) (by kernel_rfl) (e := Extern.AbiNoEscape.same) (by kernel_rfl)]
  rw [Lib.run_noEscape]
  simp only [Result.andThen]
  rw [Oper.upon_value]
  go_wp2
  rw [Lib.run_from_unsafe w ⟨b, 0, none⟩ Tryd.underlying112 Tryd.underlying79 hj hs Tryd.bx169.liesBuilder]
  simp only [Result.andThen]
  rw [Oper.upon_value]
  go_wp2
  go_end0
  exact ⟨rfl, H.out.used _, (Kept.refl _ b w).setCell 0 _⟩
 ·
  have c0 := h.cell0
  have H := Aside0.mk h
  clear h
  go_enter Tryd.func76, Tryd.ntmps76
  obtain ⟨j, hj, _⟩ := Option.map_eq_some_iff.1 Tryd.bx169.sizeBuilder
  go_wp2
  rw [Lib.run_neq_ptr_same w _ Tryd.underlying79 hj]
  go_wp2
  go_end0
  exact ⟨rfl, H.out, Kept.refl _ b w⟩

/-- A builder that the call itself has made. -/
abbrev IsB (b : Nat) (l : List UInt8) (w : World) : Prop := Lib.IsBuilderF 81 5 b b (Lib.byteCells l) w
theorem IsB.lt' {b : Nat} {l : List UInt8} {w : World} (h : IsB b l w) : b < w.heap.size := by
 rcases h with ⟨_, v, h, _⟩ | ⟨_, v, h, _⟩ <;> exact (Array.getElem?_eq_some_iff.1 h).1
set_option maxHeartbeats 2000000 in
set_option maxRecDepth 100000 in
theorem writeString_ok (b : Nat) (l : List UInt8) (s : ByteArray) (w : World) (h : IsB b l w) (hl : l.length ≤ 100000000000) (hs : s.size ≤ 100000000000) :
  Calls Tryd.prog 50 #[.pointer (some ⟨b, 0, none⟩), .string s] w fun e w' => e = .returned (.tuple #[.int .i64 s.size, .nilIface]) ∧ IsB b (l ++ s.data.toList) w' ∧ Kept 5 b w w' := by
 obtain ⟨i0, hi, hzz⟩ := Option.map_eq_some_iff.1 inf8b
 simp only [Prod.mk.injEq] at hzz
 obtain ⟨hz0, hz1, hz2⟩ := hzz
 have HI := Aside0.mk hi
 have HZ := Aside0.mk (And.intro hz0 (And.intro hz1 hz2))
 clear hi hz0 hz1 hz2
 go_enter Tryd.func50, Tryd.ntmps50
 go_wp2_with fail
 refine (copyCheck_ok b _ _ h).mono ?_
 rintro e w1 ⟨rfl, h1, hk1⟩
 have hlt : b < w1.heap.size := IsB.lt' (.inr h1)
 obtain ⟨hB, v, hbk, hown, hne⟩ := h1
 have c0 : w1.cell? ⟨b, 0, none⟩ = some (.pointer (some ⟨b, 0, none⟩)) := by rw [Lib.cell_of_heap hbk]; rfl
 have c1 : w1.cell? ⟨b, 1, none⟩ = some v := by rw [Lib.cell_of_heap hbk]; rfl
 have HO := Aside0.mk hown
 have HK := Aside0.mk hk1
 have HB := Aside0.mk hbk
 have HN := Aside0.mk hne
 clear hown hk1 hbk hne h
 go_wp2_with (first | ((with_reducible refine gate_dst (N := 14) rfl ?_); refine Lib.wpList_append_own_stringF _ rfl _ _ 61 9 rfl b 5 i0 Tryd.underlying61 Tryd.underlying9 HI.out HZ.out.1 HZ.out.2.1 HZ.out.2.2 v _ (Lib.byteCells l) rfl HO.out s rfl (by rw [Lib.byteCells_length]; unfold maxLen; omega) (by rw [Lib.byteCells_length]; omega) (by omega) ?_))
 intro v' w2 hown' hgrow _
 have hb2 : w2.heap[b]? = some (.cells #[.pointer (some ⟨b, 0, none⟩), v] 81 (0, 0)) := by
  rw [hgrow.block b hlt (fun e => HN.out e.symm)]
  exact HB.out
 have d0 : w2.cell? ⟨b, 0, none⟩ = some (.pointer (some ⟨b, 0, none⟩)) := by rw [Lib.cell_of_heap hb2]; rfl
 have d1 : w2.cell? ⟨b, 1, none⟩ = some v := by rw [Lib.cell_of_heap hb2]; rfl
 have f1 : w2.frozen? ⟨b, 1, none⟩ = false := Lib.frozen_of_heap hb2 1
 obtain ⟨ao, n', cap, rfl⟩ : ∃ ao n' cap, v' = .slice ao n' cap := by
  rcases hown'.2 with ⟨hv, _⟩ | ⟨g, cap, cur, fz, hv, _⟩
  ·
   exact ⟨_, _, _, hv⟩
  ·
   exact ⟨_, _, _, hv⟩
 have HB2 := Aside0.mk hb2
 have HO2 := Aside0.mk hown'
 have HG := Aside0.mk hgrow
 clear hb2 hown' hgrow c0 c1
 go_wp2
 go_ret2
 refine ⟨rfl, .inr ?_, ?_⟩
 ·
  refine Lib.BuilderAtF.put (Nat.le_refl b) HB2.out (bs' := Lib.byteCells (l ++ s.data.toList)) ?_ (by decide)
  rw [Lib.byteCells_append, List.length_append]
  have := HO2.out
  rw [Lib.strCells_eq] at this
  rw [Lib.byteCells_length s.data.toList]
  exact this
 ·
  exact Kept.setCell ⟨HK.out.below.grown HG.out (by omega) (fun k hk => (HO.out.lt k hk).1), HK.out.others.grown HG.out (Lib.ownsRowF_kind HO.out)⟩ 1 _
theorem cut_at (c : UInt8) : ∀ (r : List UInt8), 0 < r.count c → ∃ j : Nat, Lib.indexByte r c = j ∧ j < r.length ∧ without c r = r.take j ++ without c (r.drop (j + 1)) ∧ r.count c = (r.drop (j + 1)).count c + 1
 | [], h => by simp at h
 | b :: l, h => by
  by_cases hb : b = c
  ·
   subst hb
   exact ⟨0, by simp [Lib.indexByte], by simp, by simp [without], by simp⟩
  ·
   have hc : 0 < l.count c := by rwa [List.count_cons_of_ne hb] at h
   obtain ⟨j, h1, h2, h3, h4⟩ := cut_at c l hc
   refine ⟨j + 1, ?_, by simp only [List.length_cons]; omega, ?_, ?_⟩
   ·
    rw [Lib.indexByte, if_neg (by simpa using hb), h1, if_neg (by rw [beq_iff_eq]; omega)]
    simp
   ·
    rw [List.take_succ_cons, List.drop_succ_cons, List.cons_append, ← h3]
    simp [without, hb]
   ·
    rw [List.count_cons_of_ne hb, h4, List.drop_succ_cons]
theorem without_none (c : UInt8) (r : List UInt8) (h : r.count c = 0) : without c r = r := by
 unfold without
 rw [List.filter_eq_self]
 intro b hb
 rw [bne_iff_ne]
 rintro rfl
 exact absurd hb (List.count_eq_zero.1 h)
set_option maxHeartbeats 4000000 in
set_option maxRecDepth 100000 in
theorem replace_ok (s : ByteArray) (c : UInt8) (w : World) (hs : s.size ≤ 1000000000) :
  Calls Tryd.prog 64 #[.string s, .string ⟨#[c]⟩, .string ⟨#[]⟩, .int .i64 (-1)] w fun e w' => e = .returned (.string ⟨(without c s.data.toList).toArray⟩) ∧ Below w.heap.size w w' := by
 have HCn := Aside0.mk (fun W => countOne_any s c W)
 have HIx := Aside0.mk (fun (x : ByteArray) W => indexOne_any x c W)
 obtain ⟨K, hK⟩ : ∃ K : Nat, K = s.data.toList.count c := ⟨_, rfl⟩
 have hcb : Lib.countByte s.data.toList c = K := hK.symm
 rw [hcb] at HCn
 have hKs : K ≤ s.size := by rw [hK]; have := List.count_le_length (a := c) (l := s.data.toList); simpa using this
 have hbeq : ((⟨#[c]⟩ : ByteArray).toList == (⟨#[]⟩ : ByteArray).toList) = false := by
  apply (Lib.bytes_beq_false_iff _ _).2
  intro h
  exact absurd (congrArg ByteArray.size h) (by simp [ByteArray.size])
 have HK := Aside0.mk hK
 clear hK hcb
 by_cases h0 : K = 0
 ·
  subst h0
  have hn := without_none c s.data.toList HK.out.symm
  have hz : (((0 : Nat) : Int) == 0) = true := rfl
  have HN := Aside0.mk hn
  clear hn
  go_enter Tryd.func64, Tryd.ntmps64
  go_wp2_with fail
  refine (HCn.out _).mono ?_
  rintro e w3 ⟨rfl, hw3⟩
  have hw4 := hw3.symm
  subst hw4
  go_wp2_with fail
  go_ret
  exact ⟨by rw [HN.out]; rfl, Below.refl _ _⟩
 ·
  have hk0 : ((K : Int) == 0) = false := beq_eq_false_iff_ne.2 (by omega)
  have hk1 : decide ((K : Int) < -1) = false := decide_eq_false (by omega)
  go_enter Tryd.func64, Tryd.ntmps64
  go_wp2_with fail
  refine (HCn.out _).mono ?_
  rintro e w3 ⟨rfl, hw3⟩
  have hw4 := hw3.symm
  subst hw4
  go_wp2_with fail
  rw [show ((s.size : Int) + -(K : Int)) = ((s.size - K : Nat) : Int) by omega]
  refine (bGrow_any w.heap.size (s.size - K) _ (heap_alloc_new w _) (by simp) (by omega)).mono ?_
  rintro e w1 ⟨rfl, h1, hb1⟩
  have H1 := Aside0.mk h1
  have HB1 := Aside0.mk (((Below.refl w.heap.size w).alloc (Nat.le_refl _) _).trans hb1)
  clear h1 hb1 hbeq hk0 hk1
  go_wp2_with fail
  go_loopg [11, 53] K (fun kq v11 v53 wr => ∃ (i start : Nat) (acc : List UInt8), v53 = .int .i64 i ∧ v11 = .int .i64 start ∧ i + kq = K ∧ start ≤ s.size ∧ Aside0 (IsB w.heap.size acc wr) ∧ Aside0 (Below w.heap.size w wr) ∧ Aside0 (acc ++ without c (s.data.toList.drop start) = without c s.data.toList) ∧ Aside0 ((s.data.toList.drop start).count c = kq) ∧ Aside0 (acc.length ≤ start))
  case atStart => exact ⟨0, 0, [], rfl, rfl, by omega, Nat.zero_le _, H1, HB1, ⟨by simp⟩, ⟨by simpa using HK.out.symm⟩, ⟨by simp⟩⟩
  case round =>
   obtain ⟨i, start, acc, rfl, rfl, hik, hst, HB, HW, HR, HN, HL⟩ := hrel
   have c1 : (0 : Int) ≤ (start : Int) := by omega
   have c2 : (start : Int) ≤ (s.size : Int) := by omega
   cases gk with
   | zero =>
    have hi1 : decide ((i : Int) < (K : Int)) = false := decide_eq_false (by omega)
    have hn := without_none c _ HN.out
    have hr := HR.out
    rw [hn] at hr
    have HR2 := Aside0.mk hr
    clear hn hr HR HN
    go_wp2_with fail
    refine (writeString_ok w.heap.size acc (s.extract start s.size) wr HB.out (by have := HL.out; omega) (by rw [ByteArray.size_extract]; omega)).mono ?_
    rintro e w3 ⟨rfl, h3, hk3⟩
    rw [Lib.extract_to_end, HR2.out] at h3
    have H3 := Aside0.mk h3
    have HW3 := Aside0.mk (HW.out.trans hk3.below)
    clear h3 hk3
    go_wp2_with fail
    refine (bString_any w.heap.size _ w3 H3.out HW3.out.size).mono ?_
    rintro e w5 ⟨rfl, _, hb5, _⟩
    have HW5 := Aside0.mk (HW3.out.trans hb5)
    clear hb5
    go_wp2_with fail
    go_ret
    exact ⟨rfl, HW5.out⟩
   | succ g =>
    have hi1 : decide ((i : Int) < (K : Int)) = true := decide_eq_true (by omega)
    obtain ⟨j, hj1, hj2, hj3, hj4⟩ := cut_at c (s.data.toList.drop start) (by rw [HN.out]; omega)
    have hjl : j < s.size - start := by simpa using hj2
    have c3 : (start : Int) ≤ (start : Int) + (j : Int) := by omega
    have c4 : (start : Int) + (j : Int) ≤ (s.size : Int) := by omega
    have c5 : (0 : Int) ≤ (start : Int) + (j : Int) := by omega
    have hix := HIx.out (s.extract start s.size) wr
    rw [Lib.extract_to_end, hj1] at hix
    have HIX := Aside0.mk hix
    have HJ := Aside0.mk (show (acc ++ (s.data.toList.drop start).take j) ++ without c (s.data.toList.drop (start + j + 1)) = without c s.data.toList by
     rw [List.append_assoc]
     have := HR.out
     rw [hj3, List.drop_drop] at this
     exact this)
    have HN2 := Aside0.mk (show (s.data.toList.drop (start + j + 1)).count c = g by
     have := HN.out
     rw [hj4, List.drop_drop] at this
     have e : start + j + 1 = start + (j + 1) := by omega
     rw [e]
     omega)
    clear hj1 hj2 hj3 hj4 hix HR HN
    go_wp2_with fail
    refine HIX.out.mono ?_
    rintro e w3 ⟨rfl, hw5⟩
    have hw6 := hw5.symm
    subst hw6
    go_wp2_with fail
    refine (writeString_ok w.heap.size acc (s.extract start (start + j)) _ HB.out (by have := HL.out; omega) (by rw [ByteArray.size_extract]; omega)).mono ?_
    rintro e w4 ⟨rfl, h4, hk4⟩
    rw [show (s.extract start (start + j)).data.toList = (s.data.toList.drop start).take j by rw [Lib.extract_data, Nat.add_sub_cancel_left]] at h4
    have H4 := Aside0.mk h4
    have HW4 := Aside0.mk (HW.out.trans hk4.below)
    have HL4 := Aside0.mk (show (acc ++ (s.data.toList.drop start).take j).length ≤ start + j + 1 by have := HL.out; simp; omega)
    clear h4 hk4
    go_wp2_with fail
    refine (writeString_ok w.heap.size _ ⟨#[]⟩ w4 H4.out (by have := HL4.out; omega) (by simp [ByteArray.size])).mono ?_
    rintro e w5 ⟨rfl, h5, hk5⟩
    rw [show (⟨#[]⟩ : ByteArray).data.toList = [] from rfl, List.append_nil] at h5
    have H5 := Aside0.mk h5
    have HW5 := Aside0.mk (HW4.out.trans hk5.below)
    clear h5 hk5
    go_wp2_with fail
    go_roundg g
    case measure => omega
    case rel => exact ⟨i + 1, start + j + 1, _, by go_num, by go_num, by omega, by omega, H5, HW5, HJ, HN2, HL4⟩
theorem strings_ReplaceAll.calls (a0 a1 a2 : ByteArray) (r : ByteArray) (w : World) (h : strings_ReplaceAll.f a0 a1 a2 = some r) :
  Calls Tryd.prog 45 #[.string a0, .string a1, .string a2] w fun e w' => e = .returned (.string r) ∧ Below w.heap.size w w' := by
 unfold strings_ReplaceAll.f at h
 split at h
 case isFalse => cases h
 rename_i h1
 split at h
 case isFalse => cases h
 rename_i h2
 split at h
 case isFalse => cases h
 rename_i h3
 obtain ⟨c, rfl⟩ : ∃ c, a1 = ⟨#[c]⟩ := by
  obtain ⟨⟨l⟩⟩ := a1
  have h3 : l.length = 1 := h2
  match l, h3 with
  | [c], _ => exact ⟨c, rfl⟩
 obtain rfl : a2 = ⟨#[]⟩ := by
  obtain ⟨⟨l⟩⟩ := a2
  have h4 : l.length = 0 := h3
  match l, h4 with
  | [], _ => rfl
 injection h with h
 have HC := Aside0.mk (fun W => replace_ok a0 c W h1)
 have H := Aside0.mk (show (⟨(without c a0.data.toList).toArray⟩ : ByteArray) = r from h)
 clear h h1 h2 h3
 go_enter Tryd.func45, Tryd.ntmps45
 go_wp2_with fail
 refine (HC.out _).mono ?_
 rintro e w1 ⟨rfl, hb⟩
 have HB := Aside0.mk hb
 clear hb
 go_wp2_with fail
 go_ret
 exact ⟨by rw [← H.out]; rfl, HB.out⟩

/-! ### strings_Trim: function 46 -/
def strings_Trim.f (a0 a1 : ByteArray) : Option ByteArray :=
 if a0.size ≤ 9223372036854775807 then (if a1.size ≤ 1000 then (if a1.data.toList.all (fun b => decide (b.toNat < 128)) = true then some ⟨(Lib.trimS a0.data.toList a1.data.toList).toArray⟩ else none) else none) else none
theorem strings_Trim.calls (a0 a1 r : ByteArray) (w : World) (h : strings_Trim.f a0 a1 = some r) :
  Calls Tryd.prog 46 #[.string a0, .string a1] w fun e w' => e = .returned (.string r) ∧ Below w.heap.size w w' := by
 unfold strings_Trim.f at h
 split at h
 case isFalse => cases h
 rename_i h1
 split at h
 case isFalse => cases h
 rename_i h2
 split at h
 case isFalse => cases h
 rename_i h3
 injection h with h
 subst h
 exact trim_any a0 a1 w h1 (by omega) (fun j b hj => of_decide_eq_true (List.all_eq_true.1 h3 b (List.mem_of_getElem? hj)))

end Go.Proofs.YtkngjdhggcaonaaDoor.PP
