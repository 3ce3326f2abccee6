-- PRINTED by print.py (a twelfth state) out of the translation. Not trusted: Lean checks it.
import Derived.Test.YtnkibbfpmhgeaaaDoorPPx0
import Derived.Test.YtnkibbfpmhgeaaaDoorPPx1
namespace Go.Proofs.YtnkibbfpmhgeaaaDoor.PP
open Go.RowKit Go.Proofs.YtnkibbfpmhgeaaaDoorW.PrintWords Go.Proofs.YtnkibbfpmhgeaaaDoorW.PrintLast Go.Proofs.YtnkibbfpmhgeaaaDoorW.PrintMore
attribute [local go_sem] max2_int min2_int max_two min_two max_three min_three max_four min_four   -- for this text's walks alone
open Go.Proofs.YtnkibbfpmhgeaaaDoor.My
set_option linter.unusedVariables false
set_option linter.unusedSimpArgs false

/-! ### names_Decode: function 13 -/
set_option maxHeartbeats 2000000 in
set_option maxRecDepth 100000 in
theorem copyCheck_ok (b : Nat) (bs : List Value) (w : World) (h : Lib.IsBuilderF 58 5 b b bs w) :
  Calls Tryd.prog 58 #[.pointer (some ⟨b, 0, none⟩)] w fun e w' => e = .returned (.tuple #[]) ∧ (Lib.BuilderAtF 58 5 b b (.pointer (some ⟨b, 0, none⟩)) bs w' ∧ Kept 5 b w w') := by
 rcases h with h | h
 ·
  have c0 := h.cell0
  have f0 := h.frozen0
  have hs := h.shape
  have H := Aside0.mk h
  clear h
  go_enter Tryd.func58, Tryd.ntmps58
  obtain ⟨j, hj, hjs⟩ := Option.map_eq_some_iff.1 Tryd.bx169.sizeBuilder
  go_wp2
  rw [Lib.run_to_unsafe w ⟨b, 0, none⟩ Tryd.underlying56 Tryd.underlying92 hj (by rw [hjs]; decide) hs (Nat.zero_lt_succ 1)]
  simp only [Result.andThen]
  rw [Oper.upon_value]
  go_wp2
  rw [run_callFunc_extern Tryd.func70 (by kernel_rfl) (by kernel_rfl) (by kernel_rfl) (e := Extern.AbiNoEscape.same) (by kernel_rfl)]
  rw [Lib.run_noEscape]
  simp only [Result.andThen]
  rw [Oper.upon_value]
  go_wp2
  rw [Lib.run_from_unsafe w ⟨b, 0, none⟩ Tryd.underlying92 Tryd.underlying56 hj hs Tryd.bx169.liesBuilder]
  simp only [Result.andThen]
  rw [Oper.upon_value]
  go_wp2
  go_end0
  exact ⟨rfl, H.out.used _, (Kept.refl _ b w).setCell 0 _⟩
 ·
  have c0 := h.cell0
  have H := Aside0.mk h
  clear h
  go_enter Tryd.func58, Tryd.ntmps58
  obtain ⟨j, hj, _⟩ := Option.map_eq_some_iff.1 Tryd.bx169.sizeBuilder
  go_wp2
  rw [Lib.run_neq_ptr_same w _ Tryd.underlying56 hj]
  go_wp2
  go_end0
  exact ⟨rfl, H.out, Kept.refl _ b w⟩

/-- A builder that the call itself has made. -/
abbrev IsB (b : Nat) (l : List UInt8) (w : World) : Prop := Lib.IsBuilderF 58 5 b b (Lib.byteCells l) w
theorem IsB.lt' {b : Nat} {l : List UInt8} {w : World} (h : IsB b l w) : b < w.heap.size := by
 rcases h with ⟨_, v, h, _⟩ | ⟨_, v, h, _⟩ <;> exact (Array.getElem?_eq_some_iff.1 h).1
set_option maxHeartbeats 2000000 in
set_option maxRecDepth 100000 in
theorem writeByte_ok (b : Nat) (l : List UInt8) (c : UInt8) (w : World) (h : IsB b l w) (hl : l.length ≤ 100000000000) :
  Calls Tryd.prog 44 #[.pointer (some ⟨b, 0, none⟩), .int .u8 c.toNat] w fun e w' => e = .returned .nilIface ∧ IsB b (l ++ [c]) w' ∧ Kept 5 b w w' := by
 obtain ⟨i0, hi, hzz⟩ := Option.map_eq_some_iff.1 inf8
 simp only [Prod.mk.injEq] at hzz
 obtain ⟨hz0, hz1, hz2⟩ := hzz
 have HI := Aside0.mk hi
 have HZ := Aside0.mk (And.intro hz0 (And.intro hz1 hz2))
 clear hi hz0 hz1 hz2
 go_enter Tryd.func44, Tryd.ntmps44
 go_wp2_with fail
 refine (copyCheck_ok b _ _ h).mono ?_
 rintro e w1 ⟨rfl, h1, hk1⟩
 have hlt : b < w1.heap.size := IsB.lt' (.inr h1)
 obtain ⟨hB, v, hbk, hown, hne⟩ := h1
 have c0 : w1.cell? ⟨b, 0, none⟩ = some (.pointer (some ⟨b, 0, none⟩)) := by rw [Lib.cell_of_heap hbk]; rfl
 have c1 : w1.cell? ⟨b, 1, none⟩ = some v := by rw [Lib.cell_of_heap hbk]; rfl
 have HO := Aside0.mk hown
 have HK := Aside0.mk hk1
 have HB := Aside0.mk hbk
 have HN := Aside0.mk hne
 clear hown hk1 hbk hne h
 go_wp2_with (first | ((with_reducible refine gate_dst (N := 14) rfl ?_); refine wpList_append_ownF _ rfl _ _ 42 rfl b 5 i0 (.int .u8 0) 1 1 Tryd.underlying42 HI.out HZ.out.1 HZ.out.2.1 HZ.out.2.2 rfl (by omega) v _ (Lib.byteCells l) rfl (HO.out.alloc _) ⟨w1.heap.size, 0, none⟩ 1 1 (Lib.byteCells [c]) rfl rfl ?hn (Lib.byteCells_one _) (by rw [Lib.byteCells_length]; unfold maxLen; omega) (by rw [Lib.byteCells_length]; omega) (by simp; omega) ?_))
 case hn =>
  intro j u hj
  cases j with
  | zero => simp [Lib.byteCells] at hj; subst hj; exact cell_new _ _ rfl _ _
  | succ j => simp [Lib.byteCells] at hj
 intro v' w2 hown' hgrow _
 have hb2 : w2.heap[b]? = some (.cells #[.pointer (some ⟨b, 0, none⟩), v] 58 (0, 0)) := by
  rw [hgrow.block b (by simp; omega) (fun e => HN.out e.symm)]
  exact obj_alloc HB.out _
 have d0 : w2.cell? ⟨b, 0, none⟩ = some (.pointer (some ⟨b, 0, none⟩)) := by rw [Lib.cell_of_heap hb2]; rfl
 have d1 : w2.cell? ⟨b, 1, none⟩ = some v := by rw [Lib.cell_of_heap hb2]; rfl
 have f1 : w2.frozen? ⟨b, 1, none⟩ = false := Lib.frozen_of_heap hb2 1
 obtain ⟨g, cap, rfl⟩ : ∃ g cap, v' = .slice (some ⟨g, 0, none⟩) ((Lib.byteCells l).length + 1) cap := by
  rcases hown'.2 with ⟨_, h0⟩ | ⟨g, cap, cur, fz, hv, _⟩
  ·
   omega
  ·
   exact ⟨g, cap, hv⟩
 have HB2 := Aside0.mk hb2
 have HO2 := Aside0.mk hown'
 have HG := Aside0.mk hgrow
 clear hb2 hown' hgrow c0 c1
 go_wp2
 go_ret
 refine ⟨rfl, .inr ?_, ?_⟩
 ·
  refine Lib.BuilderAtF.put (Nat.le_refl b) HB2.out (bs' := Lib.byteCells (l ++ [c])) ?_ (by decide)
  rw [Lib.byteCells_append, List.length_append]
  exact HO2.out
 ·
  have k1 := HK.out.alloc (Nat.le_of_lt hlt) (.cells #[.int .u8 c.toNat] 5)
  exact Kept.setCell ⟨k1.below.grown HG.out (by simp; omega) (fun k hk => (HO.out.lt k hk).1), k1.others.grown HG.out (Lib.ownsRowF_kind (HO.out.alloc _))⟩ 1 _
set_option maxHeartbeats 2000000 in
set_option maxRecDepth 100000 in
theorem writeString_ok (b : Nat) (l : List UInt8) (s : ByteArray) (w : World) (h : IsB b l w) (hl : l.length ≤ 100000000000) (hs : s.size ≤ 100000000000) :
  Calls Tryd.prog 42 #[.pointer (some ⟨b, 0, none⟩), .string s] w fun e w' => e = .returned (.tuple #[.int .i64 s.size, .nilIface]) ∧ IsB b (l ++ s.data.toList) w' ∧ Kept 5 b w w' := by
 obtain ⟨i0, hi, hzz⟩ := Option.map_eq_some_iff.1 inf8
 simp only [Prod.mk.injEq] at hzz
 obtain ⟨hz0, hz1, hz2⟩ := hzz
 have HI := Aside0.mk hi
 have HZ := Aside0.mk (And.intro hz0 (And.intro hz1 hz2))
 clear hi hz0 hz1 hz2
 go_enter Tryd.func42, Tryd.ntmps42
 go_wp2_with fail
 refine (copyCheck_ok b _ _ h).mono ?_
 rintro e w1 ⟨rfl, h1, hk1⟩
 have hlt : b < w1.heap.size := IsB.lt' (.inr h1)
 obtain ⟨hB, v, hbk, hown, hne⟩ := h1
 have c0 : w1.cell? ⟨b, 0, none⟩ = some (.pointer (some ⟨b, 0, none⟩)) := by rw [Lib.cell_of_heap hbk]; rfl
 have c1 : w1.cell? ⟨b, 1, none⟩ = some v := by rw [Lib.cell_of_heap hbk]; rfl
 have HO := Aside0.mk hown
 have HK := Aside0.mk hk1
 have HB := Aside0.mk hbk
 have HN := Aside0.mk hne
 clear hown hk1 hbk hne h
 go_wp2_with (first | ((with_reducible refine gate_dst (N := 14) rfl ?_); refine Lib.wpList_append_own_stringF _ rfl _ _ 42 9 rfl b 5 i0 Tryd.underlying42 Tryd.underlying9 HI.out HZ.out.1 HZ.out.2.1 HZ.out.2.2 v _ (Lib.byteCells l) rfl HO.out s rfl (by rw [Lib.byteCells_length]; unfold maxLen; omega) (by rw [Lib.byteCells_length]; omega) (by omega) ?_))
 intro v' w2 hown' hgrow _
 have hb2 : w2.heap[b]? = some (.cells #[.pointer (some ⟨b, 0, none⟩), v] 58 (0, 0)) := by
  rw [hgrow.block b hlt (fun e => HN.out e.symm)]
  exact HB.out
 have d0 : w2.cell? ⟨b, 0, none⟩ = some (.pointer (some ⟨b, 0, none⟩)) := by rw [Lib.cell_of_heap hb2]; rfl
 have d1 : w2.cell? ⟨b, 1, none⟩ = some v := by rw [Lib.cell_of_heap hb2]; rfl
 have f1 : w2.frozen? ⟨b, 1, none⟩ = false := Lib.frozen_of_heap hb2 1
 obtain ⟨ao, n', cap, rfl⟩ : ∃ ao n' cap, v' = .slice ao n' cap := by
  rcases hown'.2 with ⟨hv, _⟩ | ⟨g, cap, cur, fz, hv, _⟩
  ·
   exact ⟨_, _, _, hv⟩
  ·
   exact ⟨_, _, _, hv⟩
 have HB2 := Aside0.mk hb2
 have HO2 := Aside0.mk hown'
 have HG := Aside0.mk hgrow
 clear hb2 hown' hgrow c0 c1
 go_wp2
 go_ret2
 refine ⟨rfl, .inr ?_, ?_⟩
 ·
  refine Lib.BuilderAtF.put (Nat.le_refl b) HB2.out (bs' := Lib.byteCells (l ++ s.data.toList)) ?_ (by decide)
  rw [Lib.byteCells_append, List.length_append]
  have := HO2.out
  rw [Lib.strCells_eq] at this
  rw [Lib.byteCells_length s.data.toList]
  exact this
 ·
  exact Kept.setCell ⟨HK.out.below.grown HG.out (by omega) (fun k hk => (HO.out.lt k hk).1), HK.out.others.grown HG.out (Lib.ownsRowF_kind HO.out)⟩ 1 _
theorem and_ffff (y : Nat) : y &&& 65535 = y % 65536 := by
 have h := Nat.and_two_pow_sub_one_eq_mod y 16
 simpa using h
theorem nums_app (k : IntKind) (a b : List Int) : nums k (a ++ b) = nums k a ++ nums k b := by simp [nums]
/-- What is read of letters: the runes so far, a high half that waits, the bits that wait, how many. -/
abbrev Rn := List Int × Nat × Nat × Nat
def runStep (s : Rn) (c : UInt8) : Rn :=
 let x1 := s.2.2.1 * 64 % 4294967296 ||| (Lib.indexByte L64 c).toNat
 if s.2.2.2 + 6 < 16 then (s.1, s.2.1, x1, s.2.2.2 + 6)
 else
  let n2 := s.2.2.2 + 6 - 16
  let u := x1 / 2 ^ n2 % 65536
  let x2 := x1 % 2 ^ n2
  if 55296 ≤ u ∧ u < 56320 then (s.1, u, x2, n2)
  else if (56320 ≤ u ∧ u < 57344) ∧ 0 < s.2.1 then (s.1 ++ [65536 + ((s.2.1 : Int) - 55296) * 1024 + u - 56320], 0, x2, n2)
  else (s.1 ++ [(u : Int)], s.2.1, x2, n2)
def runS (s : ByteArray) : ByteArray := runesBytes (s.data.toList.foldl runStep ([], 0, 0, 0)).1
theorem idx64 (c : UInt8) (h : c ∈ L64) : 0 ≤ Lib.indexByte L64 c ∧ Lib.indexByte L64 c < 64 := by
 have : ∀ c ∈ L64, 0 ≤ Lib.indexByte L64 c ∧ Lib.indexByte L64 c < 64 := by decide +kernel
 exact this c h
theorem inf32 : (Tryd.prog.info? 21).map (fun i => (i.zero, i.size, i.bytes)) = some (some (.int .i32 0), 1, 4) := by kernel_rfl
set_option maxHeartbeats 4000000 in
set_option maxRecDepth 100000 in
theorem run_ok (s : ByteArray) (w : World) (hs : s.size ≤ 100000000) (hL : ∀ c, c ∈ s.data.toList → c ∈ L64) :
  Calls Tryd.prog 45 #[.string s] w fun e w' => e = .returned (.string (runS s)) ∧ Below w.heap.size w w' := by
 obtain ⟨i0, hi, hzz⟩ := Option.map_eq_some_iff.1 inf32
 simp only [Prod.mk.injEq] at hzz
 obtain ⟨hz0, hz1, hz2⟩ := hzz
 have HI := Aside0.mk hi
 have HZ := Aside0.mk (And.intro hz0 (And.intro hz1 hz2))
 have HL := Aside0.mk hL
 obtain ⟨fin, hfin⟩ : ∃ fin, fin = s.data.toList.foldl runStep ([], 0, 0, 0) := ⟨_, rfl⟩
 have HF := Aside0.mk hfin
 have hsz : s.data.toList.length = s.size := by simp
 clear hi hz0 hz1 hz2 hL hfin
 go_enter Tryd.func45, Tryd.ntmps45
 go_wp2
 go_loopg [3, 4, 5, 6, 11] s.size (fun kq v3 v4 v5 v6 v11 wr => ∃ (i : Nat) (o : List Int) (hgh x n : Nat), i + kq = s.size ∧ v4 = .int .i32 hgh ∧ v5 = .int .u32 x ∧ v6 = .int .u32 n ∧ v11 = .int .i64 i ∧ Aside0 (wr.ownsRow w.heap.size 21 1 v3 o.length (nums .i32 o)) ∧ Aside0 (Below w.heap.size w wr) ∧ Aside0 ((s.data.toList.drop i).foldl runStep (o, hgh, x, n) = fin) ∧ n < 16 ∧ x < 4294967296 ∧ (hgh = 0 ∨ (55296 ≤ hgh ∧ hgh < 56320)) ∧ o.length ≤ i)
 case atStart => exact ⟨0, [], 0, 0, 0, by omega, rfl, rfl, rfl, rfl, ⟨World.ownsRow_nil _ _ _ _⟩, ⟨Below.refl _ _⟩, ⟨HF.out.symm⟩, by omega, by omega, .inl rfl, by simp⟩
 case round =>
  obtain ⟨i, o, hgh, x, n, hik, rfl, rfl, rfl, rfl, HO, HB, HFo, hn, hx, hh, hol⟩ := hrel
  by_cases hp : i < s.size
  ·
   obtain ⟨k, rfl⟩ : ∃ k, gk = k + 1 := ⟨gk - 1, by omega⟩
   have hil : i < s.data.toList.length := by omega
   obtain ⟨c, hc⟩ : ∃ c, c = s[i]'hp := ⟨_, rfl⟩
   have hci : s.data.toList[i] = c := by rw [hc]; exact Array.getElem_toList _
   have hcL : c ∈ L64 := HL.out c (by rw [← hci]; exact List.getElem_mem hil)
   have hfo := HFo.out
   rw [List.drop_eq_getElem_cons hil, List.foldl_cons, hci] at hfo
   obtain ⟨d0, d1⟩ := idx64 c hcL
   obtain ⟨d, hd⟩ : ∃ d, d = (Lib.indexByte L64 c).toNat := ⟨_, rfl⟩
   have hd64 : d < 64 := by omega
   have hdi : Lib.indexByte (⟨L64.toArray⟩ : ByteArray).data.toList ((c.toNat : Int)).toNat.toUInt8 = (d : Int) := by
    have e1 : ((c.toNat : Int)).toNat.toUInt8 = c := by simp
    rw [e1]
    show Lib.indexByte L64 c = _
    omega
   obtain ⟨x1, hx1⟩ : ∃ x1, x1 = x * 64 % 4294967296 ||| d := ⟨_, rfl⟩
   have hx1l : x1 < 4294967296 := by rw [hx1]; exact Nat.or_lt_two_pow (n := 32) (Nat.mod_lt _ (by omega)) (by omega)
   have hor : bits .or .u32 ((x : Int) * 64 % 4294967296) (d : Int) = (x1 : Int) := by
    rw [hx1, ← u32_or_nat _ _ (Nat.mod_lt _ (by omega)) (by omega)]
    congr 1
   have hst : runStep (o, hgh, x, n) c = (if n + 6 < 16 then (o, hgh, x1, n + 6) else if 55296 ≤ x1 / 2 ^ (n + 6 - 16) % 65536 ∧ x1 / 2 ^ (n + 6 - 16) % 65536 < 56320 then (o, x1 / 2 ^ (n + 6 - 16) % 65536, x1 % 2 ^ (n + 6 - 16), n + 6 - 16) else if (56320 ≤ x1 / 2 ^ (n + 6 - 16) % 65536 ∧ x1 / 2 ^ (n + 6 - 16) % 65536 < 57344) ∧ 0 < hgh then (o ++ [65536 + ((hgh : Int) - 55296) * 1024 + (x1 / 2 ^ (n + 6 - 16) % 65536 : Nat) - 56320], 0, x1 % 2 ^ (n + 6 - 16), n + 6 - 16) else (o ++ [((x1 / 2 ^ (n + 6 - 16) % 65536 : Nat) : Int)], hgh, x1 % 2 ^ (n + 6 - 16), n + 6 - 16)) := by
    unfold runStep
    simp only [← hd, ← hx1]
   have HF2 := Aside0.mk hfo
   have HST := Aside0.mk hst
   have HHD := Aside0.mk hd
   have HHX := Aside0.mk hx1
   have hi1 : (0 : Int) ≤ (i : Int) := by omega
   have hi2 : (i : Int) < (s.size : Int) := by omega
   clear hfo HFo hil hci hcL d0 d1 hd hx1 hst
   go_wp2_with fail
   rw [← hc]
   refine (indexByte_any ⟨L64.toArray⟩ (c.toNat : Int) _).mono ?_
   rintro e w1 ⟨rfl, rfl⟩
   rw [hdi]
   by_cases h16 : n + 6 < 16
   ·
    have hst := HST.out
    rw [if_pos h16] at hst
    have hf := HF2.out
    rw [hst] at hf
    have HF3 := Aside0.mk hf
    have hi6 : (n : Int) + 6 < 16 := by omega
    clear hf hst HF2 HST
    go_wp2_with fail
    go_roundg k
    case measure => omega
    case rel => exact ⟨i + 1, o, hgh, x1, n + 6, by omega, rfl, rfl, by go_num, by go_num, HO, HB, HF3, by omega, hx1l, hh, by omega⟩
   ·
    obtain ⟨m, rfl⟩ : ∃ m, n = m + 10 := ⟨n - 10, by omega⟩
    have hm6 : m < 6 := by omega
    have hst := HST.out
    rw [if_neg h16, show m + 10 + 6 - 16 = m by omega] at hst
    have HST2 := Aside0.mk hst
    have hi6 : ¬ ((m + 10 : Nat) : Int) + 6 < 16 := by omega
    go_upto_region 14 with (fail)
    obtain ⟨u, hu⟩ : ∃ u, u = x1 / 2 ^ m % 65536 := ⟨_, rfl⟩
    have hul : u < 65536 := by omega
    obtain ⟨x2, hx2e⟩ : ∃ x2, x2 = x1 % 2 ^ m := ⟨_, rfl⟩
    have hst2 := HST2.out
    rw [← hu, ← hx2e] at hst2
    have HST3 := Aside0.mk hst2
    have hand : bits .and .u32 ((x1 : Int) / 2 ^ m) 65535 = (u : Int) := by
     have e2 : ((x1 : Int) / 2 ^ m) = ((x1 / 2 ^ m : Nat) : Int) := by simp
     have e3 : x1 / 2 ^ m < 4294967296 := Nat.lt_of_le_of_lt (Nat.div_le_self _ _) hx1l
     have e5 := u32_and_nat (x1 / 2 ^ m) 65535 e3 (by omega)
     have e6 : (x1 / 2 ^ m) &&& 65535 = (x1 / 2 ^ m) % 65536 := by
      generalize x1 / 2 ^ m = y
      exact and_ffff y
     rw [e6, ← hu] at e5
     rw [e2]
     exact e5
    have hw32 : wrap32 (u : Int) = (u : Int) := by unfold wrap32; omega
    have hx2 : bits .and .u32 (x1 : Int) ((2 ^ m - 1) % 4294967296) = ((x1 % 2 ^ m : Nat) : Int) := by
     have := mask_is x1 m hx1l hm6
     have e : IntKind.u32.wrap (IntKind.u32.wrap (2 ^ m) - 1) = (2 ^ m - 1) % 4294967296 := by
      rw [IntKind.wrap_u32', IntKind.wrap_u32']
      have : m = 0 ∨ m = 1 ∨ m = 2 ∨ m = 3 ∨ m = 4 ∨ m = 5 := by omega
      rcases this with rfl | rfl | rfl | rfl | rfl | rfl <;> rfl
     rw [e] at this
     rw [this]; simp
    have hx2l : x2 < 4294967296 := by rw [hx2e]; exact Nat.lt_of_le_of_lt (Nat.mod_le _ _) hx1l
    have HU := Aside0.mk hu
    have HX2L := Aside0.mk hx2l
    rw [← hx2e] at hx2
    rw [hand, hw32, hx2]
    clear hst hst2 HST HST2 hu hand hw32 hx2 hx2e
    generalize (2 : Int) ^ (m + 10 + 6 - 16) = gP1
    generalize (2 : Int) ^ m = gP2
    by_cases hA : 55296 ≤ u ∧ u < 56320
    ·
     have a1 : (55296 : Int) ≤ (u : Int) := by omega
     have a2 : (u : Int) < 56320 := by omega
     have hst := HST3.out
     rw [if_pos hA] at hst
     have hf := HF2.out
     rw [hst] at hf
     have HF3 := Aside0.mk hf
     clear hf hst HF2 HST3
     go_wp2_with fail
     go_roundg k
     case measure => omega
     case rel => exact ⟨i + 1, _, u, _, m, by omega, rfl, rfl, by go_num, by go_num, HO, HB, HF3, by omega, HX2L.out, by omega, by omega⟩
    ·
     by_cases hB : (56320 ≤ u ∧ u < 57344) ∧ 0 < hgh
     ·
      have b1 : (56320 : Int) ≤ (u : Int) := by omega
      have b2 : (u : Int) < 57344 := by omega
      have b3 : (0 : Int) < (hgh : Int) := by omega
      have b3n : 0 < hgh := hB.2
      have b4 : (55296 : Int) ≤ (u : Int) := by omega
      have b5 : ¬ (u : Int) < 56320 := by omega
      have hst := HST3.out
      rw [if_neg hA, if_pos hB] at hst
      have hf := HF2.out
      rw [hst] at hf
      have HF3 := Aside0.mk hf
      clear hf hst HF2 HST3
      go_wp2_with (first | ((with_reducible refine gate_dst (N := 70) rfl ?_); refine wpList_append_own _ rfl _ _ 87 rfl w.heap.size 21 i0 (.int .i32 0) 1 4 Tryd.underlying87 HI.out HZ.out.1 HZ.out.2.1 HZ.out.2.2 rfl (by omega) _ o.length (nums .i32 o) rfl (HO.out.alloc _) ⟨w1.heap.size, 0, none⟩ 1 1 (nums .i32 [65536 + ((hgh : Int) - 55296) * 1024 + (u : Int) - 56320]) rfl rfl ?hn (by intro u hu; simp [nums] at hu; subst hu; rfl) (by unfold maxLen; omega) (by omega) (by have := HB.out.size; simp; omega) ?_))
      case hn =>
       intro j u hj
       cases j with
       | zero => simp [nums] at hj; subst hj; first | rfl | exact cell_new _ _ rfl _ _
       | succ j => simp [nums] at hj
      intro v' w2 h3 h4 h5
      have HO2 := Aside0.mk (show w2.ownsRow w.heap.size 21 1 v' (o ++ [65536 + ((hgh : Int) - 55296) * 1024 + (u : Int) - 56320]).length (nums .i32 (o ++ [65536 + ((hgh : Int) - 55296) * 1024 + (u : Int) - 56320])) by rw [nums_app, List.length_append]; exact h3)
      have HB2 := Aside0.mk ((HB.out.alloc HB.out.size _).grown h4 (by have := HB.out.size; simp; omega) (fun k hk => (HO.out.lt k hk).1))
      clear h3 h4 h5 HO HB
      go_wp2_with fail
      go_roundg k
      case measure => omega
      case rel => exact ⟨i + 1, _, 0, _, m, by omega, rfl, rfl, by go_num, by go_num, HO2, HB2, HF3, by omega, HX2L.out, by omega, by rw [List.length_append]; simp; omega⟩
     ·
      have hst := HST3.out
      rw [if_neg hA, if_neg hB] at hst
      have hf := HF2.out
      rw [hst] at hf
      have HF3 := Aside0.mk hf
      clear hf hst HF2 HST3
      by_cases c1 : 55296 ≤ u
      ·
       have a1 : (55296 : Int) ≤ (u : Int) := by omega
       have a2 : ¬ (u : Int) < 56320 := by omega
       have b1 : (56320 : Int) ≤ (u : Int) := by omega
       by_cases c2 : u < 57344
       ·
        have b2 : (u : Int) < 57344 := by omega
        have b3 : hgh = 0 := by omega
        subst b3
        go_wp2_with (first | ((with_reducible refine gate_dst (N := 41) rfl ?_); refine wpList_append_own _ rfl _ _ 87 rfl w.heap.size 21 i0 (.int .i32 0) 1 4 Tryd.underlying87 HI.out HZ.out.1 HZ.out.2.1 HZ.out.2.2 rfl (by omega) _ o.length (nums .i32 o) rfl (HO.out.alloc _) ⟨w1.heap.size, 0, none⟩ 1 1 (nums .i32 [(u : Int)]) rfl rfl ?hn (by intro u hu; simp [nums] at hu; subst hu; rfl) (by unfold maxLen; omega) (by omega) (by have := HB.out.size; simp; omega) ?_))
        case hn =>
         intro j u hj
         cases j with
         | zero => simp [nums] at hj; subst hj; first | rfl | exact cell_new _ _ rfl _ _
         | succ j => simp [nums] at hj
        intro v' w2 h3 h4 h5
        have HO2 := Aside0.mk (show w2.ownsRow w.heap.size 21 1 v' (o ++ [(u : Int)]).length (nums .i32 (o ++ [(u : Int)])) by rw [nums_app, List.length_append]; exact h3)
        have HB2 := Aside0.mk ((HB.out.alloc HB.out.size _).grown h4 (by have := HB.out.size; simp; omega) (fun k hk => (HO.out.lt k hk).1))
        clear h3 h4 h5 HO HB
        go_wp2_with fail
        go_roundg k
        case measure => omega
        case rel => exact ⟨i + 1, _, 0, _, m, by omega, rfl, rfl, by go_num, by go_num, HO2, HB2, HF3, by omega, HX2L.out, by omega, by rw [List.length_append]; simp; omega⟩
       ·
        have b2 : ¬ (u : Int) < 57344 := by omega
        go_wp2_with (first | ((with_reducible refine gate_dst (N := 41) rfl ?_); refine wpList_append_own _ rfl _ _ 87 rfl w.heap.size 21 i0 (.int .i32 0) 1 4 Tryd.underlying87 HI.out HZ.out.1 HZ.out.2.1 HZ.out.2.2 rfl (by omega) _ o.length (nums .i32 o) rfl (HO.out.alloc _) ⟨w1.heap.size, 0, none⟩ 1 1 (nums .i32 [(u : Int)]) rfl rfl ?hn (by intro u hu; simp [nums] at hu; subst hu; rfl) (by unfold maxLen; omega) (by omega) (by have := HB.out.size; simp; omega) ?_))
        case hn =>
         intro j u hj
         cases j with
         | zero => simp [nums] at hj; subst hj; first | rfl | exact cell_new _ _ rfl _ _
         | succ j => simp [nums] at hj
        intro v' w2 h3 h4 h5
        have HO2 := Aside0.mk (show w2.ownsRow w.heap.size 21 1 v' (o ++ [(u : Int)]).length (nums .i32 (o ++ [(u : Int)])) by rw [nums_app, List.length_append]; exact h3)
        have HB2 := Aside0.mk ((HB.out.alloc HB.out.size _).grown h4 (by have := HB.out.size; simp; omega) (fun k hk => (HO.out.lt k hk).1))
        clear h3 h4 h5 HO HB
        go_wp2_with fail
        go_roundg k
        case measure => omega
        case rel => exact ⟨i + 1, _, hgh, _, m, by omega, rfl, rfl, by go_num, by go_num, HO2, HB2, HF3, by omega, HX2L.out, by omega, by rw [List.length_append]; simp; omega⟩
      ·
       have a1 : ¬ (55296 : Int) ≤ (u : Int) := by omega
       have b1 : ¬ (56320 : Int) ≤ (u : Int) := by omega
       go_wp2_with (first | ((with_reducible refine gate_dst (N := 41) rfl ?_); refine wpList_append_own _ rfl _ _ 87 rfl w.heap.size 21 i0 (.int .i32 0) 1 4 Tryd.underlying87 HI.out HZ.out.1 HZ.out.2.1 HZ.out.2.2 rfl (by omega) _ o.length (nums .i32 o) rfl (HO.out.alloc _) ⟨w1.heap.size, 0, none⟩ 1 1 (nums .i32 [(u : Int)]) rfl rfl ?hn (by intro u hu; simp [nums] at hu; subst hu; rfl) (by unfold maxLen; omega) (by omega) (by have := HB.out.size; simp; omega) ?_))
       case hn =>
        intro j u hj
        cases j with
        | zero => simp [nums] at hj; subst hj; first | rfl | exact cell_new _ _ rfl _ _
        | succ j => simp [nums] at hj
       intro v' w2 h3 h4 h5
       have HO2 := Aside0.mk (show w2.ownsRow w.heap.size 21 1 v' (o ++ [(u : Int)]).length (nums .i32 (o ++ [(u : Int)])) by rw [nums_app, List.length_append]; exact h3)
       have HB2 := Aside0.mk ((HB.out.alloc HB.out.size _).grown h4 (by have := HB.out.size; simp; omega) (fun k hk => (HO.out.lt k hk).1))
       clear h3 h4 h5 HO HB
       go_wp2_with fail
       go_roundg k
       case measure => omega
       case rel => exact ⟨i + 1, _, hgh, _, m, by omega, rfl, rfl, by go_num, by go_num, HO2, HB2, HF3, by omega, HX2L.out, by omega, by rw [List.length_append]; simp; omega⟩
  ·
   have hend : s.data.toList.drop i = [] := List.drop_eq_nil_iff.2 (by omega)
   have hfo := HFo.out
   rw [hend] at hfo
   have hfo2 : (o, hgh, x, n) = fin := hfo
   have hcv := own_runes (P := Tryd.prog) Tryd.underlying87 Tryd.underlying21 Tryd.underlying9 HO.out
   have HR := Aside0.mk (show runS s = runesBytes o by unfold runS; rw [← HF.out, ← hfo2])
   clear hfo hfo2 HFo HO
   go_wp2
   go_ret
   rw [HR.out]
   exact ⟨rfl, HB.out⟩
theorem dropAll {p : UInt8 → Bool} : ∀ (l : List UInt8), l.dropWhile p = [] → ∀ c, c ∈ l → p c = true
 | [], _, c, hc => by cases hc
 | a :: l, h, c, hc => by
  rw [List.dropWhile_cons] at h
  split at h
  ·
   rename_i ha
   rcases List.mem_cons.1 hc with rfl | hc
   ·
    exact ha
   ·
    exact dropAll l h c hc
  ·
   cases h
theorem dropHead {p : UInt8 → Bool} : ∀ (l : List UInt8) a t, l.dropWhile p = a :: t → p a = false
 | [], a, t, h => by cases h
 | b :: l, a, t, h => by
  rw [List.dropWhile_cons] at h
  split at h
  ·
   exact dropHead l a t h
  ·
   rename_i hb
   injection h with h1 h2
   subst h1
   simpa using hb
theorem trim_none (l cs : List UInt8) (h : Lib.trimS l cs = []) : ∀ c, c ∈ l → c ∈ cs := by
 unfold Lib.trimS Lib.trimLeftS Lib.trimRightS at h
 intro c hc
 have hnil : l.reverse.dropWhile (cs.contains ·) = [] := by
  cases he : l.reverse.dropWhile (cs.contains ·) with
  | nil => rfl
  | cons a t =>
   exfalso
   have h1 := dropAll _ h a (by rw [he]; simp)
   have h2 := dropHead _ a t he
   rw [h1] at h2
   cases h2
 have := dropAll _ hnil c (by simpa using hc)
 simpa using this
theorem runStep_len (s : Rn) (c : UInt8) : (runStep s c).1.length ≤ s.1.length + 1 := by
 unfold runStep
 simp only
 repeat' split
 all_goals simp
theorem runStep_fold (l : List UInt8) : ∀ s : Rn, (l.foldl runStep s).1.length ≤ s.1.length + l.length := by
 induction l with
 | nil => intro s; simp
 | cons c l ih =>
  intro s
  have h1 := ih (runStep s c)
  have h2 := runStep_len s c
  simp only [List.foldl_cons, List.length_cons]
  omega
theorem runS_size (s : ByteArray) : (runS s).size ≤ 4 * s.size := by
 have h1 := runesBytes_size_le (s.data.toList.foldl runStep ([], 0, 0, 0)).1
 have h2 := runStep_fold s.data.toList ([], 0, 0, 0)
 have h3 : s.data.toList.length = s.size := by simp
 unfold runS
 simp only [List.length_nil] at h2
 omega
/-- The runs and the plain bytes of what is left, laid behind what there is; none: no text is so written. -/
def decF : Nat → ByteArray → List UInt8 → Option (List UInt8)
 | 0, _, _ => none
 | k + 1, rest, b =>
  if rest.size = 0 then some b
  else if Lib.indexByte rest.data.toList 38 < 0 then some (b ++ rest.data.toList)
  else
   let a := (Lib.indexByte rest.data.toList 38).toNat
   let r1 := rest.extract (a + 1) rest.size
   if Lib.indexByte r1.data.toList 45 < 0 then none
   else
    let e := (Lib.indexByte r1.data.toList 45).toNat
    let r2 := r1.extract 0 e
    if Lib.trimS r2.data.toList L64 = [] then
     decF k (r1.extract (e + 1) r1.size) (b ++ (rest.extract 0 a).data.toList ++ (if e = 0 then [38] else (runS r2).data.toList))
    else none
def names_Decode.f (a0 : ByteArray) : Option (ByteArray × Int) :=
 if a0.size ≤ 10000000 then
  match decF (a0.size + 1) a0 [] with
  | none => some (⟨#[]⟩, 11)
  | some l =>
   match names_Encode.f ⟨l.toArray⟩ with
   | none => none
   | some r => if r.2 = 0 ∧ r.1 = a0 then some (⟨l.toArray⟩, 0) else some (⟨#[]⟩, 11)
 else none
theorem index_lt {l : List UInt8} {c : UInt8} (h : ¬ Lib.indexByte l c < 0) : (Lib.indexByte l c).toNat < l.length := by
 obtain ⟨o, ho⟩ : ∃ o : Nat, Lib.indexByte l c = o := ⟨(Lib.indexByte l c).toNat, by omega⟩
 have := (Lib.indexByte_some ho).1
 rw [ho]
 simp only [Int.toNat_natCast]
 rcases Nat.lt_or_ge o l.length with h | h
 ·
  exact h
 ·
  rw [List.getElem?_eq_none h] at this; cases this
theorem IsB.later {b : Nat} {l : List UInt8} {w w' : World} (h : IsB b l w) (hb : Below w.heap.size w w') : IsB b l w' := by
 have hlt := h.lt'
 have hk := fun {v : Value} (x : w.ownsRowF b 5 1 v (Lib.byteCells l).length (Lib.byteCells l)) => x.kept (row := none) ⟨hb.os, hb.tape, hb.output, hb.size, fun k hk _ => hb.block k hk⟩ (Classical.em _)
 rcases h with ⟨h1, v, h2, h3, h4⟩ | ⟨h1, v, h2, h3, h4⟩
 ·
  exact .inl ⟨h1, v, (hb.block b hlt).trans h2, hk h3, h4⟩
 ·
  exact .inr ⟨h1, v, (hb.block b hlt).trans h2, hk h3, h4⟩
set_option maxHeartbeats 4000000 in
set_option maxRecDepth 100000 in
theorem names_Decode.calls (a0 r0 : ByteArray) (r1 : Int) (w : World) (h : names_Decode.f a0 = some (r0, r1)) (hT : Tabs w) :
  Calls Tryd.prog 13 #[.string a0] w fun e w' => e = .returned (.tuple #[.string r0, .int .i64 r1]) ∧ Below w.heap.size w w' := by
 unfold names_Decode.f at h
 split at h
 case isFalse => cases h
 rename_i hs
 obtain ⟨fin, hfin⟩ : ∃ fin, fin = decF (a0.size + 1) a0 [] := ⟨_, rfl⟩
 rw [← hfin] at h
 have HF := Aside0.mk hfin
 have HH := Aside0.mk h
 have HT := Aside0.mk hT
 clear h hfin hT
 go_enter Tryd.func13, Tryd.ntmps13
 go_upto_region 2 with (fail)
 iterate 10 (first | go_values | go_skip | go_guarded | go_step | go_upon | go_back)
 go_cut [] from 5 (fun wc => ∃ l : List UInt8, fin = some l ∧ l.length ≤ 4 * a0.size ∧ Aside0 (IsB w.heap.size l wc) ∧ Aside0 (Below w.heap.size w wc))
 case first =>
  go_wp2_with fail
  go_loopg [5] (a0.size + 1) (fun kq v5 wr => ∃ (rest : ByteArray) (b : List UInt8), v5 = .string rest ∧ rest.size < kq ∧ b.length + 4 * rest.size ≤ 4 * a0.size ∧ Aside0 (IsB w.heap.size b wr) ∧ Aside0 (Below w.heap.size w wr) ∧ Aside0 (decF kq rest b = fin))
  case atStart => exact ⟨a0, [], rfl, by omega, by simp, ⟨Lib.IsBuilderF.of (Lib.fresh_isBuilder _ _ w)⟩, ⟨(Below.refl _ _).alloc (Nat.le_refl _) _⟩, ⟨HF.out.symm⟩⟩
  case round =>
   obtain ⟨rest, b, rfl, hrk, hbl, HB, HW, HD⟩ := hrel
   obtain ⟨k, rfl⟩ : ∃ k, gk = k + 1 := ⟨gk - 1, by omega⟩
   by_cases hz : rest.size = 0
   ·
    have hz2 : rest.toList.isEmpty = true := by
     rw [ByteArray.toList_eq, List.isEmpty_iff]
     exact List.eq_nil_of_length_eq_zero (by simpa using hz)
    have hd := HD.out
    simp only [decF] at hd
    rw [if_pos hz] at hd
    have HD2 := Aside0.mk hd
    clear hd HD
    go_wp2_with fail
    go_meet
    case rel => exact ⟨b, HD2.out.symm, by omega, HB, HW⟩
   ·
    have hz2 : rest.toList.isEmpty = false := by
     rw [ByteArray.toList_eq]
     cases hl : rest.data.toList with
     | nil => exact absurd (by have := congrArg List.length hl; simpa using this) hz
     | cons _ _ => rfl
    have hd := HD.out
    simp only [decF] at hd
    rw [if_neg hz] at hd
    go_wp2_with fail
    refine (indexByte_any rest 38 _).mono ?_
    rintro e w1 ⟨rfl, rfl⟩
    by_cases ha : Lib.indexByte rest.data.toList 38 < 0
    ·
     have ha2 : Lib.indexByte rest.data.toList (Int.toNat 38).toUInt8 < 0 := ha
     rw [if_pos ha] at hd
     have HD2 := Aside0.mk hd
     clear hd HD
     go_wp2_with fail
     refine (writeString_ok w.heap.size b rest _ HB.out (by omega) (by omega)).mono ?_
     rintro e w2 ⟨rfl, hB2, hK2⟩
     have HB2 := Aside0.mk hB2
     have HW2 := Aside0.mk (HW.out.trans hK2.below)
     clear hB2 hK2 HB HW
     go_wp2_with fail
     go_meet
     case rel => exact ⟨b ++ rest.data.toList, HD2.out.symm, by simp; omega, HB2, HW2⟩
    ·
     rw [if_neg ha] at hd
     have hal := index_lt ha
     obtain ⟨a, haa⟩ : ∃ a : Nat, Lib.indexByte rest.data.toList 38 = a := ⟨(Lib.indexByte rest.data.toList 38).toNat, by omega⟩
     have ha2 : Lib.indexByte rest.data.toList (Int.toNat 38).toUInt8 = (a : Int) := haa
     have hrl : rest.data.toList.length = rest.size := by simp
     rw [haa, hrl] at hal
     rw [haa] at hd
     simp only [Int.toNat_natCast] at hal hd
     rw [ha2]
     have HD2 := Aside0.mk hd
     clear hd HD ha haa ha2
     go_wp2_with fail
     refine (writeString_ok w.heap.size b (rest.extract 0 a) _ HB.out (by omega) (by simp; omega)).mono ?_
     rintro e w2 ⟨rfl, hB2, hK2⟩
     have HB2 := Aside0.mk hB2
     have HW2 := Aside0.mk (HW.out.trans hK2.below)
     clear hB2 hK2 HB HW
     obtain ⟨r1', hr1⟩ : ∃ r1', r1' = rest.extract (a + 1) rest.size := ⟨_, rfl⟩
     have hr1s : r1'.size + (a + 1) = rest.size := by rw [hr1]; simp; omega
     obtain ⟨b1, hb1⟩ : ∃ b1, b1 = b ++ (rest.extract 0 a).data.toList := ⟨_, rfl⟩
     have hb1l : b1.length = b.length + a := by rw [hb1]; simp; omega
     have hd := HD2.out
     rw [← hr1, ← hb1] at hd
     rw [← hb1] at HB2
     have HD := Aside0.mk hd
     clear hd HD2
     go_upto_region 9 with (fail)
     rw [← hr1]
     clear hr1 hb1
     go_wp2_with fail
     refine (indexByte_any r1' 45 _).mono ?_
     rintro e w3 ⟨rfl, rfl⟩
     have hr1l : r1'.data.toList.length = r1'.size := by simp
     by_cases he : Lib.indexByte r1'.data.toList 45 < 0
     ·
      have he2 : Lib.indexByte r1'.data.toList (Int.toNat 45).toUInt8 < 0 := he
      have hd := HD.out
      rw [if_pos he] at hd
      have HD2 := Aside0.mk hd
      clear hd HD
      go_wp2_with fail
      have hh := HH.out
      rw [← HD2.out] at hh
      injection hh with hh
      obtain ⟨rfl, rfl⟩ := Prod.mk.inj hh
      go_ret2
      exact ⟨rfl, HW2.out⟩
     ·
      have hd := HD.out
      rw [if_neg he] at hd
      have hel := index_lt he
      obtain ⟨n, hn⟩ : ∃ n : Nat, Lib.indexByte r1'.data.toList 45 = n := ⟨(Lib.indexByte r1'.data.toList 45).toNat, by omega⟩
      have hn2 : Lib.indexByte r1'.data.toList (Int.toNat 45).toUInt8 = (n : Int) := hn
      rw [hn, hr1l] at hel
      rw [hn] at hd
      simp only [Int.toNat_natCast] at hel hd
      rw [hn2]
      have HD2 := Aside0.mk hd
      clear hd HD he hn hn2
      go_wp2_with fail
      refine (trim_any (r1'.extract 0 n) ⟨L64.toArray⟩ _ (by simp; omega) (by decide) (ascii_of_all (by decide))).mono ?_
      rintro e w4 ⟨rfl, hb4⟩
      have HB4 := Aside0.mk (HB2.out.later hb4)
      have HW4 := Aside0.mk (HW2.out.trans (below_le hb4 HW2.out.size))
      clear hb4 HB2 HW2
      by_cases ht : Lib.trimS (r1'.extract 0 n).data.toList L64 = []
      ·
       have hd := HD2.out
       rw [if_pos ht] at hd
       have HD3 := Aside0.mk hd
       have hte : (⟨(Lib.trimS (r1'.extract 0 n).data.toList (⟨L64.toArray⟩ : ByteArray).data.toList).toArray⟩ : ByteArray) = ⟨#[]⟩ := by
        show (⟨(Lib.trimS (r1'.extract 0 n).data.toList L64).toArray⟩ : ByteArray) = _
        rw [ht]
       have HT1 := Aside0.mk (trim_none _ _ ht)
       rw [hte]
       clear hd HD2 ht hte
       by_cases hn0 : n = 0
       ·
        have hn0b : ((n : Int) == 0) = true := beq_iff_eq.mpr (by omega)
        have hd := HD3.out
        rw [if_pos hn0] at hd
        have HD4 := Aside0.mk hd
        clear hd HD3 hn0
        go_wp2_with fail
        refine (writeByte_ok w.heap.size b1 38 _ HB4.out (by omega)).mono ?_
        rintro e w5 ⟨rfl, hB5, hK5⟩
        have HB5 := Aside0.mk hB5
        have HW5 := Aside0.mk (HW4.out.trans hK5.below)
        clear hB5 hK5 HB4 HW4
        go_wp2_with fail
        go_roundg k
        case measure => omega
        case rel => exact ⟨_, b1 ++ [38], rfl, by simp; omega, by simp; omega, HB5, HW5, HD4⟩
       ·
        have hn0b : ((n : Int) == 0) = false := beq_eq_false_iff_ne.mpr (by omega)
        have hd := HD3.out
        rw [if_neg hn0] at hd
        have HD4 := Aside0.mk hd
        clear hd HD3
        have hr2s : (r1'.extract 0 n).size = n := by simp; omega
        go_wp2_with fail
        refine (run_ok (r1'.extract 0 n) _ (by omega) HT1.out).mono ?_
        rintro e w5 ⟨rfl, hb5⟩
        have HB5 := Aside0.mk (HB4.out.later hb5)
        have HW5 := Aside0.mk (HW4.out.trans (below_le hb5 HW4.out.size))
        have hrs := runS_size (r1'.extract 0 n)
        rw [hr2s] at hrs
        clear hb5 HB4 HW4
        go_wp2_with fail
        refine (writeString_ok w.heap.size b1 (runS (r1'.extract 0 n)) _ HB5.out (by omega) (by omega)).mono ?_
        rintro e w6 ⟨rfl, hB6, hK6⟩
        have HB6 := Aside0.mk hB6
        have HW6 := Aside0.mk (HW5.out.trans hK6.below)
        clear hB6 hK6 HB5 HW5
        go_wp2_with fail
        go_roundg k
        case measure => omega
        case rel => exact ⟨_, b1 ++ (runS (r1'.extract 0 n)).data.toList, rfl, by simp; omega, by simp; omega, HB6, HW6, HD4⟩
      ·
       have hd := HD2.out
       rw [if_neg ht] at hd
       obtain ⟨tr, htr⟩ : ∃ tr : ByteArray, tr = ⟨(Lib.trimS (r1'.extract 0 n).data.toList (⟨L64.toArray⟩ : ByteArray).data.toList).toArray⟩ := ⟨_, rfl⟩
       have hte : tr.toList.isEmpty = false := by
        rw [ByteArray.toList_eq, htr]
        show (Lib.trimS (r1'.extract 0 n).data.toList L64).isEmpty = false
        cases hl : Lib.trimS (r1'.extract 0 n).data.toList L64 with
        | nil => exact absurd hl ht
        | cons _ _ => rfl
       have HD3 := Aside0.mk hd
       rw [← htr]
       clear hd HD2 ht htr
       have HD2 := HD3
       clear HD3
       go_wp2_with fail
       have hh := HH.out
       rw [← HD2.out] at hh
       injection hh with hh
       obtain ⟨rfl, rfl⟩ := Prod.mk.inj hh
       go_ret2
       exact ⟨rfl, HW4.out⟩
 case rest =>
  obtain ⟨l, hfl, hll, HB, HW⟩ := hcut
  have hh := HH.out
  rw [hfl] at hh
  have HH2 := Aside0.mk hh
  clear hh HH hfl
  go_wp2_with fail
  refine (bString_any w.heap.size l _ HB.out HW.out.size).mono ?_
  rintro e w1 ⟨rfl, hB1, hb1, _⟩
  have HB1 := Aside0.mk hB1
  have HW1 := Aside0.mk (HW.out.trans hb1)
  have hT1 := HT.out.below HW1.out
  clear hB1 hb1 HB HW
  have hh := HH2.out
  obtain ⟨q, hq⟩ : ∃ q, q = names_Encode.f ⟨l.toArray⟩ := ⟨_, rfl⟩
  rw [← hq] at hh
  cases q with
  | none => cases hh
  | some r =>
   obtain ⟨t, e0⟩ := r
   have HE := Aside0.mk hh
   clear hh HH2
   go_wp2_with fail
   refine (names_Encode.calls ⟨l.toArray⟩ t e0 _ hq.symm hT1).mono ?_
   rintro e w2 ⟨rfl, hb2⟩
   have HB2 := Aside0.mk (IsB.later HB1.out hb2)
   have HW2 := Aside0.mk (HW1.out.trans (below_le hb2 HW1.out.size))
   clear hb2 HB1 HW1 hT1 hq
   by_cases h0 : e0 = 0
   ·
    subst h0
    by_cases h1 : t = a0
    ·
     subst h1
     have hh := HE.out
     simp only [and_self, if_true] at hh
     injection hh with hh
     obtain ⟨rfl, rfl⟩ := Prod.mk.inj hh
     clear hh HE
     go_wp2_with fail
     refine (bString_any w.heap.size l _ HB2.out HW2.out.size).mono ?_
     rintro e w3 ⟨rfl, hB3, hb3, _⟩
     have HW3 := Aside0.mk (HW2.out.trans hb3)
     clear hB3 hb3 HB2 HW2
     go_wp2_with fail
     go_ret2
     exact ⟨rfl, HW3.out⟩
    ·
     have hh := HE.out
     simp only [h1, and_false, if_false] at hh
     injection hh with hh
     obtain ⟨rfl, rfl⟩ := Prod.mk.inj hh
     clear hh HE
     have h1b : (t.toList == a0.toList) = false := by
      rw [ByteArray.toList_eq, ByteArray.toList_eq]
      exact beq_eq_false_iff_ne.mpr fun e => h1 (ByteArray.ext (Array.toList_inj.1 e))
     go_wp2_with fail
     go_ret2
     exact ⟨rfl, HW2.out⟩
   ·
    have hh := HE.out
    simp only [h0, false_and, if_false] at hh
    injection hh with hh
    obtain ⟨rfl, rfl⟩ := Prod.mk.inj hh
    clear hh HE
    have h0b : (e0 == 0) = false := beq_eq_false_iff_ne.mpr h0
    go_wp2_with fail
    go_ret2
    exact ⟨rfl, HW2.out⟩

end Go.Proofs.YtnkibbfpmhgeaaaDoor.PP
