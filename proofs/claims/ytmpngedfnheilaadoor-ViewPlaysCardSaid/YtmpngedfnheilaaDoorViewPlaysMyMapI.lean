/- MyViewK, MyMapI (mergeall.py). -/
import Derived.Test.YtmpngedfnheilaaDoorViewPlaysMyViewJ
import Derived.Test.YtmpngedfnheilaaDoorProg
import Derived.WalkKit
import Derived.Maps.Keyed
import Derived.WideKeyEntry
namespace Go.Proofs.YtmpngedfnheilaaDoor.PP
open Go.RowKit Go.Proofs.YtmpngedfnheilaaDoorW.PrintWords Go.Proofs.YtmpngedfnheilaaDoorW.PrintLast Go.Proofs.YtmpngedfnheilaaDoorW.PrintMore
open Go.Proofs.YtmpngedfnheilaaDoor.My
set_option linter.unusedVariables false
set_option linter.unusedSimpArgs false
set_option maxHeartbeats 4000000 in
set_option maxRecDepth 100000 in
theorem textClone_ok (A0 : Option Addr) (c0 : Nat) (l : List ByteArray) (w : World) (h : Kd.C Kd.string w A0 l.length l) (hl : l.length ≤ 1000000000) :
    Calls Tryd.prog 42 #[.slice A0 l.length c0] w fun e w' => ∃ v' : Value, e = .returned v' ∧ Kd.R Kd.string 9 w' w.heap.size (fun _ => True) v' l ∧ Below w.heap.size w w' := by
  have hq : ∀ (W : World) (a : Option Addr) (n c n' c' : Nat), (binOp .eql 31 (.slice a n c) (.slice none n' c')).run Tryd.prog W = .ok (.bool a.isNone) W := fun W a n c n' c' => Lib.run_eql_slice_nil W _ _ a n c n' c' Tryd.underlying31
  have HR := Aside0.mk h
  have HL := Aside0.mk hl
  clear hl
  go_enter Tryd.func42, Tryd.ntmps42
  cases A0 with
  | none =>
    have hz : l = [] := by
      cases l with
      | nil => rfl
      | cons x y =>
        obtain ⟨ad, e, _⟩ := h.2.2 (by simp)
        cases e
    subst hz
    clear h
    go_wp2_with fail
    go_ret
    exact ⟨_, rfl, Kd.R_nil _ _ _ _ _, Below.refl _ _⟩
  | some ad =>
    clear h
    have HB := Aside0.mk (Below.refl w.heap.size w)
    go_wp2_with (first | ((with_reducible refine gate_dst (N := 5) rfl ?_); (try (refine gate_guard (by rfl) ?_; dsimp only)); refine Kd.R_lit Kd.string _ 9 ?hg (N := 5) ?hd (xs := ([] : List ByteArray)) (inner := []) (ok := fun _ => True) (okp := fun _ => True) ?hr ?hp (fun _ hk => hk) trivial (Below.refl _ _) (Nat.le_refl _) (by simp) ?_; (case hd => rfl); (case hg => rfl); (case hr => first | (go_simp; done) | (go_simp; rfl)); (case hp => exact (Reps.none _ _)); intro v5 w1 ho hb hg_ hnew_; clear hg_ hnew_; have HO := Aside0.mk (Kd.R_lower ho (below_size HB.out)); have HB1 := Aside0.mk (below_step HB.out hb); clear hb ho) | ((with_reducible refine gate_builtin (b := .append) (xs := #[.tmp 5, .tmp 6]) rfl ?_); (try (refine gate_guard (by rfl) ?_; dsimp only)); at_builtin; refine Kd.R_append_rows Kd.string (w0 := w) w.heap.size rfl (.tmp 5) (.tmp 6) 31 9 (.string ⟨#[]⟩) 16 rfl Tryd.underlying31 info9 rfl (by decide) (by omega) v5 [] l _ _ _ (fun _ => True) (fun _ => False) rfl rfl ?aO ?aR (fun _ _ h => h) (fun _ h => h.elim) ?aF ?aB ?aS ?aL ?_; (case aR => exact Kd.C_below HR.out HB1.out); (case aB => exact HB1.out); (case aF => exact (fun _ _ => trivial)); (case aO => exact HO.out); (case aS => exact HB1.out.size); (case aL => have := HL.out; simp; omega); intro v7 w2 ho hb hg hat; have HO7 := Aside0.mk ho; have HB7 := Aside0.mk hb; clear ho hb hg hat))
    go_ret
    exact ⟨_, rfl, HO7.out, HB7.out⟩
end Go.Proofs.YtmpngedfnheilaaDoor.PP

namespace Go.Proofs.YtmpngedfnheilaaDoor.My
open Go.MapKept
/-- The entries of a map, in the order in which they came, numbered from i on. -/
def mkEs : Nat → List (Int × Value) → List MapEntry
  | _, [] => []
  | i, p :: ps => ⟨.int .i64 p.1, p.2, i⟩ :: mkEs (i + 1) ps
def getI : List (Int × Value) → Int → Option Value
  | [], _ => none
  | p :: ps, x => if x = p.1 then some p.2 else getI ps x
theorem mkEs_snoc (p : Int × Value) : ∀ (ps : List (Int × Value)) (i : Nat), mkEs i (ps ++ [p]) = mkEs i ps ++ [⟨.int .i64 p.1, p.2, i + ps.length⟩]
  | [], i => rfl
  | q :: ps, i => by
    show _ :: mkEs (i + 1) (ps ++ [p]) = _ :: (mkEs (i + 1) ps ++ _)
    rw [mkEs_snoc p ps (i + 1), List.length_cons, show i + 1 + ps.length = i + (ps.length + 1) by omega]
theorem mkEs_len : ∀ (ps : List (Int × Value)) (i : Nat), (mkEs i ps).length = ps.length
  | [], _ => rfl
  | p :: ps, i => by simp [mkEs, mkEs_len ps (i + 1)]
theorem findNow_mk (x : Int) : ∀ (ps : List (Int × Value)) (i n : Nat), (getI ps x = none → Instr.findNow (.int .i64) (.int .i64 x) (mkEs i ps) n = some none) ∧ ∀ v, getI ps x = some v → ∃ j, Instr.findNow (.int .i64) (.int .i64 x) (mkEs i ps) n = some (some (j, v))
  | [], i, n => ⟨fun _ => rfl, fun v h => by cases h⟩
  | p :: ps, i, n => by
    have ih := findNow_mk x ps (i + 1) (n + 1)
    by_cases hx : x = p.1
    · refine ⟨fun h => ?_, fun v h => ⟨n, ?_⟩⟩
      · simp [getI, hx] at h
      · simp only [getI, if_pos hx, Option.some.injEq] at h
        simp [mkEs, Instr.findNow, Instr.sameNow, hx, h]
    · have hb : (x == p.1) = false := beq_eq_false_iff_ne.mpr hx
      have hs : Instr.findNow (.int .i64) (.int .i64 x) (mkEs i (p :: ps)) n = Instr.findNow (.int .i64) (.int .i64 x) (mkEs (i + 1) ps) (n + 1) := by simp [mkEs, Instr.findNow, Instr.sameNow, hb]
      rw [hs]
      simp only [getI, if_neg hx]
      exact ih
theorem find_born (p : Int × Value) : ∀ (ps : List (Int × Value)) (i : Nat), (mkEs i (ps ++ [p])).findIdx? (fun e => ((e.born : Nat) : Int) == ((i + ps.length : Nat) : Int)) = some ps.length
  | [], i => by simp [mkEs, List.findIdx?_cons]
  | q :: ps, i => by
    have ih := find_born p ps (i + 1)
    show (_ :: mkEs (i + 1) (ps ++ [p])).findIdx? _ = _
    rw [List.findIdx?_cons]
    have hne : (((i : Nat) : Int) == ((i + (q :: ps).length : Nat) : Int)) = false := beq_eq_false_iff_ne.mpr (by simp; omega)
    rw [show i + (q :: ps).length = i + 1 + ps.length by simp; omega] at hne ⊢
    simp only [hne]
    rw [if_neg (by decide), ih]
    simp
/-- Block b is the map of these pairs. -/
def MI (w : World) (b : Nat) (ps : List (Int × Value)) : Prop := ∃ es : Array MapEntry, w.heap[b]? = some (.map es ps.length) ∧ es.toList = mkEs 0 ps
abbrev setB (w : World) (b : Nat) (o : Obj) : World := { w with heap := w.heap.setIfInBounds b o }
section
variable {P : Program} {w : World} {b : Nat} {ps : List (Int × Value)} {t k e : TypeId}
theorem MI.alloc0 (w : World) : MI (w.alloc (.map #[] 0)) w.heap.size [] := ⟨#[], heap_alloc_new w _, rfl⟩
theorem MI.keep {w' : World} (h : MI w b ps) (hb : w'.heap[b]? = w.heap[b]?) : MI w' b ps := by
  obtain ⟨es, h1, h2⟩ := h
  exact ⟨es, hb.trans h1, h2⟩
theorem run_checkInt (hk : P.underlying k = some (.int .i64)) (em : Bool) (x : Int) : (Instr.checkKey em 10000 k (.int .i64 x)).run P w = .ok () w := by
  exact MapKept.run_checkKey hk (by first | trivial | rfl | simp [IsKey]) em 9999
theorem run_find_none (hk : P.underlying k = some (.int .i64)) {x : Int} (h : getI ps x = none) : (Instr.findKey k (.int .i64 x) (mkEs 0 ps)).run P w = .ok none w := by
  simp [Instr.findKey, run_underlying hk, (findNow_mk x ps 0 0).1 h]
theorem MI.lookup (hm : MI w b ps) (ht : P.underlying t = some (.map k e)) (hk : P.underlying k = some (.int .i64)) {z : Value} (hz : (zeroValue e).run P w = .ok z w) (x : Int) :
    (Instr.lookup t (.map (some b)) (.int .i64 x) false).run P w = .ok ((getI ps x).getD z) w := by
  obtain ⟨es, hb, hes⟩ := hm
  have hc : (Instr.checkKey es.isEmpty 10000 k (.int .i64 x)).run P w = .ok () w := run_checkInt hk _ x
  cases hg : getI ps x with
  | none =>
    have hf := run_find_none (w := w) hk hg
    simp [Instr.lookup, run_underlying ht, MapKept.run_getObj_map hb, hc, hes, hf, hz, Result.andThen]
  | some v =>
    obtain ⟨j, hj⟩ := (findNow_mk x ps 0 0).2 v hg
    have hf : (Instr.findKey k (.int .i64 x) (mkEs 0 ps)).run P w = .ok (some (j, v)) w := by simp [Instr.findKey, run_underlying hk, hj]
    simp [Instr.lookup, run_underlying ht, MapKept.run_getObj_map hb, hc, hes, hf, Result.andThen]
/-- The same in whatever world holds the map as it is: what the block becomes hangs on the block alone. -/
theorem MI.entryAll (hm : MI w b ps) (ht : P.underlying t = some (.map k e)) (hk : P.underlying k = some (.int .i64)) {z : Value} (hz : ∀ W : World, (zeroValue e).run P W = .ok z W) (x : Int) (hx : getI ps x = none) :
    ∃ o, (∀ W : World, W.heap[b]? = w.heap[b]? → (Instr.mapEntry t (.map (some b)) (.int .i64 x)).run P W = .ok (.tuple #[z, goInt ps.length]) (setB W b o)) ∧ ∀ W : World, W.heap[b]? = w.heap[b]? → MI (setB W b o) b (ps ++ [(x, z)]) := by
  obtain ⟨es, hb, hes⟩ := hm
  refine ⟨.map (es.push ⟨.int .i64 x, z, ps.length⟩) (ps.length + 1), fun W hW => ?_, fun W hW => ⟨es.push ⟨.int .i64 x, z, ps.length⟩, ?_, ?_⟩⟩
  · have hf := run_find_none (w := W) hk hx
    simp [Instr.mapEntry, run_underlying ht, MapKept.run_getObj_map (hW.trans hb), run_checkInt hk, hes, hf, hz, MapKept.run_setObj_map _ (hW.trans hb), Result.andThen]
  · have hlt := (Array.getElem?_eq_some_iff.1 (hW.trans hb)).1
    simp [hlt]
  · rw [Array.toList_push, hes, mkEs_snoc, Nat.zero_add]
theorem MI.updateAll (hm : MI w b ps) (ht : P.underlying t = some (.map k e)) (hk : P.underlying k = some (.int .i64)) (x : Int) (hx : getI ps x = none) (v : Value) :
    ∃ o, (∀ W : World, W.heap[b]? = w.heap[b]? → (Instr.mapUpdate t (.map (some b)) (.int .i64 x) v).run P W = .ok () (setB W b o)) ∧ ∀ W : World, W.heap[b]? = w.heap[b]? → MI (setB W b o) b (ps ++ [(x, v)]) := by
  obtain ⟨es, hb, hes⟩ := hm
  refine ⟨.map (es.push ⟨.int .i64 x, v, ps.length⟩) (ps.length + 1), fun W hW => ?_, fun W hW => ⟨es.push ⟨.int .i64 x, v, ps.length⟩, ?_, ?_⟩⟩
  · have hf := run_find_none (w := W) hk hx
    simp [Instr.mapUpdate, run_underlying ht, MapKept.run_getObj_map (hW.trans hb), run_checkInt hk, hes, hf, MapKept.run_setObj_map _ (hW.trans hb), Result.andThen]
  · have hlt := (Array.getElem?_eq_some_iff.1 (hW.trans hb)).1
    simp [hlt]
  · rw [Array.toList_push, hes, mkEs_snoc, Nat.zero_add]
theorem MI.storeAll {x : Int} {z : Value} (hm : MI w b (ps ++ [(x, z)])) (v : Value) :
    ∃ o, (∀ W : World, W.heap[b]? = w.heap[b]? → (Instr.entryStore t (.map (some b)) (goInt ps.length) v).run P W = .ok () (setB W b o)) ∧ ∀ W : World, W.heap[b]? = w.heap[b]? → MI (setB W b o) b (ps ++ [(x, v)]) := by
  obtain ⟨es, hb, hes⟩ := hm
  have hidx : es.findIdx? (fun e => ((e.born : Nat) : Int) == ((ps.length : Nat) : Int)) = some ps.length := by
    rw [WideElems.findIdx_arr, hes]
    have := find_born (x, z) ps 0
    rwa [Nat.zero_add] at this
  refine ⟨.map (es.modify ps.length fun e => { e with val := v }) (ps ++ [(x, z)]).length, fun W hW => ?_, fun W hW => ⟨es.modify ps.length fun e => { e with val := v }, ?_, ?_⟩⟩
  · simp [Instr.entryStore, MapKept.run_getObj_map (hW.trans hb), asInt, asIntOf, goInt, hidx, MapKept.run_setObj_map _ (hW.trans hb), Result.andThen]
  · have hlt := (Array.getElem?_eq_some_iff.1 (hW.trans hb)).1
    simp [hlt]
  · rw [Array.toList_modify, hes, mkEs_snoc, mkEs_snoc]
    have h := WideElems.modify_last (fun e : MapEntry => { e with val := v }) ⟨.int .i64 x, z, 0 + ps.length⟩ (mkEs 0 ps)
    rw [mkEs_len] at h
    exact h
theorem setB_ne (w : World) {b k : Nat} (o : Obj) (h : k ≠ b) : (setB w b o).heap[k]? = w.heap[k]? := by
  simp [Ne.symm h]
theorem setB_size (w : World) (b : Nat) (o : Obj) : (setB w b o).heap.size = w.heap.size := by simp
theorem MI.store {x : Int} {z : Value} (hm : MI w b (ps ++ [(x, z)])) (v : Value) :
    ∃ o, (Instr.entryStore t (.map (some b)) (goInt ps.length) v).run P w = .ok () (setB w b o) ∧ MI (setB w b o) b (ps ++ [(x, v)]) := by
  obtain ⟨es, hb, hes⟩ := hm
  have hidx : es.findIdx? (fun e => ((e.born : Nat) : Int) == ((ps.length : Nat) : Int)) = some ps.length := by
    rw [WideElems.findIdx_arr, hes]
    have := find_born (x, z) ps 0
    rwa [Nat.zero_add] at this
  refine ⟨.map (es.modify ps.length fun e => { e with val := v }) (ps ++ [(x, z)]).length, ?_, es.modify ps.length fun e => { e with val := v }, ?_, ?_⟩
  · simp [Instr.entryStore, MapKept.run_getObj_map hb, asInt, asIntOf, goInt, hidx, MapKept.run_setObj_map _ hb, Result.andThen]
  · have hlt := (Array.getElem?_eq_some_iff.1 hb).1
    simp [hlt]
  · rw [Array.toList_modify, hes, mkEs_snoc, mkEs_snoc]
    have h := WideElems.modify_last (fun e : MapEntry => { e with val := v }) ⟨.int .i64 x, z, 0 + ps.length⟩ (mkEs 0 ps)
    rw [mkEs_len] at h
    exact h
end
end Go.Proofs.YtmpngedfnheilaaDoor.My
