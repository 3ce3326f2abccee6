/- YtakfdmhoooeejaaDoorMyBuildS, as far as WireBack needs it (prune.py). -/
import Derived.Test.YtakfdmhoooeejaaDoorWireBackMyShelfWire
import Derived.Test.YtakfdmhoooeejaaDoorWireBackMyBits
import Derived.IntWalk
import Derived.Lib.FrozenHead2
import Derived.Deep.RegionHeld3
import Derived.Deep.RegionWith
namespace Go.Proofs.YtakfdmhoooeejaaDoor.My
open Go.RowKit Go.Proofs.YtakfdmhoooeejaaDoorW.PrintWords Go.Proofs.YtakfdmhoooeejaaDoorW.PrintLast Go.Proofs.YtakfdmhoooeejaaDoorW.PrintMore
set_option linter.unusedVariables false
set_option linter.unusedSimpArgs false
theorem inf8 : (Tryd.prog.info? 5).map (fun i => (i.zero, i.size, i.bytes)) = some (some (.int .u8 0), 1, 1) := by kernel_rfl
set_option maxHeartbeats 2000000 in
set_option maxRecDepth 100000 in
theorem copyCheck_ok (b : Nat) (bs : List Value) (w : World) (h : Lib.IsBuilderF 57 5 b b bs w) :
    Calls Tryd.prog 26 #[.pointer (some ⟨b, 0, none⟩)] w fun e w' => e = .returned (.tuple #[]) ∧ (Lib.BuilderAtF 57 5 b b (.pointer (some ⟨b, 0, none⟩)) bs w' ∧ Kept 5 b w w') := by
  rcases h with h | h
  · have c0 := h.cell0
    have f0 := h.frozen0
    have hs := h.shape
    have H := Aside0.mk h
    clear h
    go_enter Tryd.func26, Tryd.ntmps26
    obtain ⟨j, hj, hjs⟩ := Option.map_eq_some_iff.1 Tryd.bx169.sizeBuilder
    go_wp2
    rw [Lib.run_to_unsafe w ⟨b, 0, none⟩ Tryd.underlying55 Tryd.underlying69 hj (by rw [hjs]; decide) hs (Nat.zero_lt_succ 1)]
    simp only [Result.andThen]
    rw [Oper.upon_value]
    go_wp2
    rw [run_callFunc_extern Tryd.func33 (by kernel_rfl) (by kernel_rfl) (by kernel_rfl) (e := Extern.AbiNoEscape.same) (by kernel_rfl)]
    rw [Lib.run_noEscape]
    simp only [Result.andThen]
    rw [Oper.upon_value]
    go_wp2
    rw [Lib.run_from_unsafe w ⟨b, 0, none⟩ Tryd.underlying69 Tryd.underlying55 hj hs Tryd.bx169.liesBuilder]
    simp only [Result.andThen]
    rw [Oper.upon_value]
    go_wp2
    go_end0
    exact ⟨rfl, H.out.used _, (Kept.refl _ b w).setCell 0 _⟩
  · have c0 := h.cell0
    have H := Aside0.mk h
    clear h
    go_enter Tryd.func26, Tryd.ntmps26
    obtain ⟨j, hj, _⟩ := Option.map_eq_some_iff.1 Tryd.bx169.sizeBuilder
    go_wp2
    rw [Lib.run_neq_ptr_same w _ Tryd.underlying55 hj]
    go_wp2
    go_end0
    exact ⟨rfl, H.out, Kept.refl _ b w⟩
/-- A builder that the call itself has made. -/
abbrev IsB (b : Nat) (l : List UInt8) (w : World) : Prop := Lib.IsBuilderF 57 5 b b (Lib.byteCells l) w
theorem IsB.lt' {b : Nat} {l : List UInt8} {w : World} (h : IsB b l w) : b < w.heap.size := by
  rcases h with ⟨_, v, h, _⟩ | ⟨_, v, h, _⟩ <;> exact (Array.getElem?_eq_some_iff.1 h).1
set_option maxHeartbeats 2000000 in
set_option maxRecDepth 100000 in
theorem writeString_ok (b : Nat) (l : List UInt8) (s : ByteArray) (w : World) (h : IsB b l w) (hl : l.length ≤ 100000000000) (hs : s.size ≤ 100000000000) :
    Calls Tryd.prog 21 #[.pointer (some ⟨b, 0, none⟩), .string s] w fun e w' => e = .returned (.tuple #[.int .i64 s.size, .nilIface]) ∧ IsB b (l ++ s.data.toList) w' ∧ Kept 5 b w w' := by
  obtain ⟨i0, hi, hzz⟩ := Option.map_eq_some_iff.1 inf8
  simp only [Prod.mk.injEq] at hzz
  obtain ⟨hz0, hz1, hz2⟩ := hzz
  have HI := Aside0.mk hi
  have HZ := Aside0.mk (And.intro hz0 (And.intro hz1 hz2))
  clear hi hz0 hz1 hz2
  go_enter Tryd.func21, Tryd.ntmps21
  go_wp2_with fail
  refine (copyCheck_ok b _ _ h).mono ?_
  rintro e w1 ⟨rfl, h1, hk1⟩
  have hlt : b < w1.heap.size := IsB.lt' (.inr h1)
  obtain ⟨hB, v, hbk, hown, hne⟩ := h1
  have c0 : w1.cell? ⟨b, 0, none⟩ = some (.pointer (some ⟨b, 0, none⟩)) := by rw [Lib.cell_of_heap hbk]; rfl
  have c1 : w1.cell? ⟨b, 1, none⟩ = some v := by rw [Lib.cell_of_heap hbk]; rfl
  have HO := Aside0.mk hown
  have HK := Aside0.mk hk1
  have HB := Aside0.mk hbk
  have HN := Aside0.mk hne
  clear hown hk1 hbk hne h
  go_wp2_with (first | ((with_reducible refine gate_dst (N := 14) rfl ?_); refine Lib.wpList_append_own_stringF _ rfl _ _ 31 9 rfl b 5 i0 Tryd.underlying31 Tryd.underlying9 HI.out HZ.out.1 HZ.out.2.1 HZ.out.2.2 v _ (Lib.byteCells l) rfl HO.out s rfl (by rw [Lib.byteCells_length]; unfold maxLen; omega) (by rw [Lib.byteCells_length]; omega) (by omega) ?_))
  intro v' w2 hown' hgrow _
  have hb2 : w2.heap[b]? = some (.cells #[.pointer (some ⟨b, 0, none⟩), v] 57 (0, 0)) := by
    rw [hgrow.block b hlt (fun e => HN.out e.symm)]
    exact HB.out
  have d0 : w2.cell? ⟨b, 0, none⟩ = some (.pointer (some ⟨b, 0, none⟩)) := by rw [Lib.cell_of_heap hb2]; rfl
  have d1 : w2.cell? ⟨b, 1, none⟩ = some v := by rw [Lib.cell_of_heap hb2]; rfl
  have f1 : w2.frozen? ⟨b, 1, none⟩ = false := Lib.frozen_of_heap hb2 1
  obtain ⟨ao, n', cap, rfl⟩ : ∃ ao n' cap, v' = .slice ao n' cap := by
    rcases hown'.2 with ⟨hv, _⟩ | ⟨g, cap, cur, fz, hv, _⟩
    · exact ⟨_, _, _, hv⟩
    · exact ⟨_, _, _, hv⟩
  have HB2 := Aside0.mk hb2
  have HO2 := Aside0.mk hown'
  have HG := Aside0.mk hgrow
  clear hb2 hown' hgrow c0 c1
  go_wp2
  go_ret2
  refine ⟨rfl, .inr ?_, ?_⟩
  · refine Lib.BuilderAtF.put (Nat.le_refl b) HB2.out (bs' := Lib.byteCells (l ++ s.data.toList)) ?_ (by decide)
    rw [Lib.byteCells_append, List.length_append]
    have := HO2.out
    rw [Lib.strCells_eq] at this
    rw [Lib.byteCells_length s.data.toList]
    exact this
  · exact Kept.setCell ⟨HK.out.below.grown HG.out (by omega) (fun k hk => (HO.out.lt k hk).1), HK.out.others.grown HG.out (Lib.ownsRowF_kind HO.out)⟩ 1 _
theorem IsB.later {b : Nat} {l : List UInt8} {w w' : World} (h : IsB b l w) (hb : Below w.heap.size w w') : IsB b l w' := by
  have hlt := h.lt'
  have hk := fun {v : Value} (x : w.ownsRowF b 5 1 v (Lib.byteCells l).length (Lib.byteCells l)) => x.kept (row := none) ⟨hb.os, hb.tape, hb.output, hb.size, fun k hk _ => hb.block k hk⟩ (Classical.em _)
  rcases h with ⟨h1, v, h2, h3, h4⟩ | ⟨h1, v, h2, h3, h4⟩
  · exact .inl ⟨h1, v, (hb.block b hlt).trans h2, hk h3, h4⟩
  · exact .inr ⟨h1, v, (hb.block b hlt).trans h2, hk h3, h4⟩
end Go.Proofs.YtakfdmhoooeejaaDoor.My
