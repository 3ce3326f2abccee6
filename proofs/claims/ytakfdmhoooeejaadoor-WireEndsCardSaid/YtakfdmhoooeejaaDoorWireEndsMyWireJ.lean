/- YtakfdmhoooeejaaDoorMyWireJ, as far as WireEnds needs it (prune.py). -/
import Derived.Test.YtakfdmhoooeejaaDoorWireEndsMyWireI
import Derived.Lib.SmallJoins
namespace Go.Proofs.YtakfdmhoooeejaaDoor.PP
open Go.RowKit Go.Proofs.YtakfdmhoooeejaaDoorW.PrintWords Go.Proofs.YtakfdmhoooeejaaDoorW.PrintLast Go.Proofs.YtakfdmhoooeejaaDoorW.PrintMore
open Go.Proofs.YtakfdmhoooeejaaDoor.My
set_option linter.unusedVariables false
set_option linter.unusedSimpArgs false
theorem F_mark (W : World) (l : List UInt8) (C : Array Value) (fr : Nat × Nat) (ok : Nat → Prop) (hC : C = (l.map fun b : UInt8 => Value.int .u8 b.toNat).toArray) (hm : l.length ≤ 1000000000) (hk : ok W.heap.size) : Kd.F (Kd.int .u8) (W.alloc (.cells C 5 fr)) ok (some ⟨W.heap.size, 0, none⟩) l.length (nb l) := by
  refine F_cells (fun j hj => ?_) hm hk
  rw [World.cell?_alloc_mark, hC]
  simp [List.getD_eq_getElem?_getD, List.getElem?_eq_getElem hj]
theorem lit_SRow (W : World) (l : List ByteArray) (cs : Array Value) (h : cs = (encs (fun i : ByteArray => Value.string i) l).toArray) (hm : l.length ≤ 1000000) : SRow (W.alloc (.cells cs 9)) W.heap.size (.slice (some ⟨W.heap.size, 0, none⟩) l.length l.length) l := by
  subst h
  have := World.ownsRow_lit (base := W.heap.size) (e := 9) (size := 1) W (encs (fun i : ByteArray => Value.string i) l).toArray l.length (Nat.le_refl _) (by simp [maxLen]; omega) (by simp [encs])
  exact Kd.R_of_own this (fun _ _ => trivial)
abbrev bsA : List UInt8 := [97, 32, 123, 51, 125, 13, 10]
abbrev bsB : List UInt8 := [120, 121, 122, 32, 98, 13, 10]
def fsA : FS := ⟨[str [97, 32]], [], [], 5, .lit, 3, false⟩
theorem takeA : takeS fs0 bsA = (fsA, [evt 2 [] []]) := by kernel_rfl
theorem takeB : takeS fsA bsB = (fs0, [evt 1 [str [97, 32], str [32, 98]] [str [120, 121, 122]]]) := by kernel_rfl
theorem sameA : haversackref13_Same.f 10 [evt 2 [] []] [evt 2 [] []] = some true := by decide +kernel
theorem sameB : haversackref13_Same.f 10 [evt 1 [str [97, 32], str [32, 98]] [str [120, 121, 122]]] [evt 1 [str [97, 32], str [32, 98]] [str [120, 121, 122]]] = some true := by decide +kernel
theorem Inv_fsA : Inv fsA := by
  have := Inv.take bsA Inv.zero
  rw [takeA] at this
  exact this
set_option maxHeartbeats 8000000 in
set_option maxRecDepth 100000 in
theorem alive_ok (w : World) : Calls Tryd.prog 9 #[] w fun e w' => e = .returned (.bool true) ∧ Below w.heap.size w w' := by
  go_enter Tryd.func9, Tryd.ntmps9
  go_wp2_with fail
  refine (new_ok _).mono ?_
  rintro e w1 ⟨rfl, hw1, hb1⟩
  obtain ⟨g, hg⟩ : ∃ g, g = w.heap.size := ⟨_, rfl⟩
  have HG := Aside0.mk hg
  rw [← hg] at hw1 ⊢
  have HV1 := Aside0.mk hw1
  have HB1 := Aside0.mk hb1
  clear hw1 hb1 hg
  have hcv := Go.Joins.run_convert_bytes_const_at (P := Tryd.prog) w1 31 5 #[.int .u8 97, .int .u8 32, .int .u8 123, .int .u8 51, .int .u8 125, .int .u8 13, .int .u8 10] 7 7 w1.heap.size rfl Tryd.underlying31 Tryd.underlying5
  go_wp2_with fail
  clear hcv
  have HF1 := Aside0.mk (F_mark w1 bsA #[.int .u8 97, .int .u8 32, .int .u8 123, .int .u8 51, .int .u8 125, .int .u8 13, .int .u8 10] (7, 8) (fun k => k = w1.heap.size) (by kernel_rfl) (by decide) rfl)
  have hba : Below w1.heap.size w1 (w1.alloc (.cells #[.int .u8 97, .int .u8 32, .int .u8 123, .int .u8 51, .int .u8 125, .int .u8 13, .int .u8 10] 5 (7, 8))) := below_alloc (Below.refl _ _) _
  refine (take_ok g g 7 (fun k => k = w1.heap.size) _ vnil fs0 (some ⟨w1.heap.size, 0, none⟩) 7 bsA (HV1.out.below hba) Inv.zero (by have := HG.out; have := HB1.out.size; rw [sz_alloc]; omega) rfl (by decide) HF1.out (fun k hk hf => by have := HV1.out.fb_lt k hf; omega)).mono ?_
  rintro e w2 ⟨vo, V2, rfl, he, hw, hx⟩
  rw [takeA] at he hw
  have HE2 := Aside0.mk he
  have HV2 := Aside0.mk hw
  have HB2 := Aside0.mk (HB1.out.trans ((hba.mono (by have := HG.out; have := HB1.out.size; omega)).trans (HG.out ▸ hx.bel)))
  clear he hw hx hba HB1 HV1 HF1
  go_wp2_with fail
  refine (idle_ok g g _ V2 fsA HV2.out).mono ?_
  rintro e w3 ⟨rfl, rfl⟩
  rw [show idleS fsA = false from rfl]
  have hcv := Go.Joins.run_convert_bytes_const_at (P := Tryd.prog) w3 31 5 #[.int .u8 120, .int .u8 121, .int .u8 122, .int .u8 32, .int .u8 98, .int .u8 13, .int .u8 10] 7 7 w3.heap.size rfl Tryd.underlying31 Tryd.underlying5
  go_wp2_with fail
  clear hcv
  have HF3 := Aside0.mk (F_mark w3 bsB #[.int .u8 120, .int .u8 121, .int .u8 122, .int .u8 32, .int .u8 98, .int .u8 13, .int .u8 10] (7, 8) (fun k => k = w3.heap.size) (by kernel_rfl) (by decide) rfl)
  have hba : Below w3.heap.size w3 (w3.alloc (.cells #[.int .u8 120, .int .u8 121, .int .u8 122, .int .u8 32, .int .u8 98, .int .u8 13, .int .u8 10] 5 (7, 8))) := below_alloc (Below.refl _ _) _
  have HE3 := Aside0.mk (Kd.N_below HE2.out hba)
  refine (take_ok g g 7 (fun k => k = w3.heap.size) _ V2 fsA (some ⟨w3.heap.size, 0, none⟩) 7 bsB (HV2.out.below hba) Inv_fsA (by have := HG.out; have := HB2.out.size; rw [sz_alloc]; omega) rfl (by decide) HF3.out (fun k hk hf => by have := HV2.out.fb_lt k hf; omega)).mono ?_
  rintro e w4 ⟨vp, V4, rfl, he, hw, hx⟩
  rw [takeB] at he hw
  have HE4 := Aside0.mk (EN.after HE3.out hx)
  have HP4 := Aside0.mk he
  have HV4 := Aside0.mk hw
  have HB4 := Aside0.mk (HB2.out.trans ((hba.mono HB2.out.size).trans (HG.out ▸ hx.bel)))
  clear he hw hx hba HB2 HV2 HF3 HE2 HE3
  obtain ⟨Ao, co, eo⟩ := Kd.N_slice HE4.out
  obtain ⟨Ap, cp, ep⟩ := Kd.N_slice HP4.out
  subst eo
  subst ep
  go_wp2_with fail
  have hl := N_new1 (e := 39) (W := w4) (Nat.le_refl _) (FK_evt (w := w4) (base := w4.heap.size) (k := 2) (ts := []) (ls := []) (Kd.R_nil _ _ _ _ _) (Kd.R_nil _ _ _ _ _)) (by decide)
  have hbl : Below w4.heap.size w4 (w4.alloc (.cells #[.int .i64 2, .slice none 0 0, .slice none 0 0] 39)) := below_alloc (Below.refl _ _) _
  have ho := Kd.N_reads' (Kd.N_below HE4.out hbl)
  have hlr := Kd.N_reads' hl
  refine (haversackref13_Same.calls 10 Ao co [evt 2 [] []] _ 1 [evt 2 [] []] true _ ho.2.2 ho.2.1 hlr.2.2 hlr.2.1 sameA).mono ?_
  rintro e w5 ⟨rfl, hb5⟩
  have hb45 := hbl.trans (hb5.mono hbl.size)
  have HP5 := Aside0.mk (Kd.N_below HP4.out hb45)
  have HV5 := Aside0.mk (HV4.out.below hb45)
  have HB5 := Aside0.mk (HB4.out.trans (hb45.mono HB4.out.size))
  clear hl hbl ho hlr hb5 hb45 HE4 HP4 HV4 HB4
  go_wp2_with fail
  have s1 := lit_SRow w5 [str [97, 32], str [32, 98]] #[.string ⟨#[97, 32]⟩, .string ⟨#[32, 98]⟩] rfl (by decide)
  have s1' := Kd.R_alloc s1 (.cells #[.string ⟨#[120, 121, 122]⟩] 9)
  have s2 := lit_SRow (w5.alloc (.cells #[.string ⟨#[97, 32]⟩, .string ⟨#[32, 98]⟩] 9)) [str [120, 121, 122]] #[.string ⟨#[120, 121, 122]⟩] rfl (by decide)
  have s2' := Kd.R_lower (base' := w5.heap.size) s2 (by rw [sz_alloc]; omega)
  have hl := N_new1 (e := 39) (base := w5.heap.size) (by rw [sz_alloc, sz_alloc]; omega) (FK_evt (k := 1) s1' s2') (by decide)
  have hbl : Below w5.heap.size w5 (((w5.alloc (.cells #[.string ⟨#[97, 32]⟩, .string ⟨#[32, 98]⟩] 9)).alloc (.cells #[.string ⟨#[120, 121, 122]⟩] 9)).alloc (.cells #[.int .i64 1, .slice (some ⟨w5.heap.size, 0, none⟩) 2 2, .slice (some ⟨w5.heap.size + 1, 0, none⟩) 1 1] 39)) := below_alloc (below_alloc (below_alloc (Below.refl _ _) _) _) _
  have ho := Kd.N_reads' (Kd.N_below HP5.out hbl)
  simp only [sz_alloc] at hl
  have hlr := Kd.N_reads' hl
  refine (haversackref13_Same.calls 10 Ap cp [evt 1 [str [97, 32], str [32, 98]] [str [120, 121, 122]]] _ 1 [evt 1 [str [97, 32], str [32, 98]] [str [120, 121, 122]]] true _ ho.2.2 ho.2.1 hlr.2.2 hlr.2.1 sameB).mono ?_
  rintro e w6 ⟨rfl, hb6⟩
  have hb56 := hbl.trans (hb6.mono hbl.size)
  have HV6 := Aside0.mk (HV5.out.below hb56)
  have HB6 := Aside0.mk (HB5.out.trans (hb56.mono HB5.out.size))
  clear hl hbl ho hlr hb6 hb56 HP5 HV5 HB5 s1 s1' s2 s2'
  go_wp2_with fail
  refine (idle_ok g g _ V4 fs0 HV6.out).mono ?_
  rintro e w7 ⟨rfl, rfl⟩
  rw [show idleS fs0 = true from rfl]
  go_wp2_with fail
  go_ret
  exact ⟨rfl, HB6.out⟩
end Go.Proofs.YtakfdmhoooeejaaDoor.PP
