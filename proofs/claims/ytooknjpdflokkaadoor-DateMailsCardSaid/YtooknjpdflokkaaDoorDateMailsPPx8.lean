/- YtooknjpdflokkaaDoorPPx8, as far as DateMails needs it (prune.py). -/
import Derived.Test.YtooknjpdflokkaaDoorDateMailsPPx0
import Derived.Test.YtooknjpdflokkaaDoorDateMailsPPx4
import Derived.Test.YtooknjpdflokkaaDoorDateMailsPPx7
namespace Go.Proofs.YtooknjpdflokkaaDoor.PP
open Go.RowKit Go.Proofs.YtooknjpdflokkaaDoorW.PrintWords Go.Proofs.YtooknjpdflokkaaDoorW.PrintLast Go.Proofs.YtooknjpdflokkaaDoorW.PrintMore
attribute [local go_sem] max2_int min2_int max_two min_two max_three min_three max_four min_four   -- for this text's walks alone
open Go.Proofs.YtooknjpdflokkaaDoor.My
set_option linter.unusedVariables false
set_option linter.unusedSimpArgs false
def date_Print.j0 : Nat → ByteArray → Int → Int → Int → Int → Int → Int → Int → Option (ByteArray)
 | 0, _, _, _, _, _, _, _, _ => none
 | k + 1, x3, x132000, x132001, x132002, x132003, x132004, x132005, x132006 => (date_digits.f k x132003 2).bind fun t134 => (if t134.size + 1 ≤ 9223372036854775807 then ((date_digits.f k x132004 2).bind fun t135 => (if t134.size + 1 + t135.size ≤ 9223372036854775807 then (if t134.size + 1 + t135.size + 1 ≤ 9223372036854775807 then ((date_digits.f k x132005 2).bind fun t136 => (if t134.size + 1 + t135.size + 1 + t136.size ≤ 9223372036854775807 then (if x3.size + 1 ≤ 9223372036854775807 then (if 0 ≤ (wrap64 ((wrap64 (3 * x132001)) - 3)) then (if (wrap64 ((wrap64 (3 * x132001)) - 3)) ≤ (wrap64 (3 * x132001)) then (if (wrap64 (3 * x132001)) ≤ 36 then (if x3.size + 1 + (((wrap64 (3 * x132001)) : Int).toNat - ((wrap64 ((wrap64 (3 * x132001)) - 3)) : Int).toNat) ≤ 9223372036854775807 then (if x3.size + 1 + (((wrap64 (3 * x132001)) : Int).toNat - ((wrap64 ((wrap64 (3 * x132001)) - 3)) : Int).toNat) + 1 ≤ 9223372036854775807 then ((date_digits.f k x132000 4).bind fun t137 => (if x3.size + 1 + (((wrap64 (3 * x132001)) : Int).toNat - ((wrap64 ((wrap64 (3 * x132001)) - 3)) : Int).toNat) + 1 + t137.size ≤ 9223372036854775807 then (if x3.size + 1 + (((wrap64 (3 * x132001)) : Int).toNat - ((wrap64 ((wrap64 (3 * x132001)) - 3)) : Int).toNat) + 1 + t137.size + 1 ≤ 9223372036854775807 then (if x3.size + 1 + (((wrap64 (3 * x132001)) : Int).toNat - ((wrap64 ((wrap64 (3 * x132001)) - 3)) : Int).toNat) + 1 + t137.size + 1 + (t134.size + 1 + t135.size + 1 + t136.size) ≤ 9223372036854775807 then (if x3.size + 1 + (((wrap64 (3 * x132001)) : Int).toNat - ((wrap64 ((wrap64 (3 * x132001)) - 3)) : Int).toNat) + 1 + t137.size + 1 + (t134.size + 1 + t135.size + 1 + t136.size) + 1 ≤ 9223372036854775807 then ((date_zone.f k x132006).bind fun t138 => (if x3.size + 1 + (((wrap64 (3 * x132001)) : Int).toNat - ((wrap64 ((wrap64 (3 * x132001)) - 3)) : Int).toNat) + 1 + t137.size + 1 + (t134.size + 1 + t135.size + 1 + t136.size) + 1 + t138.size ≤ 9223372036854775807 then (some ((((((((x3 ++ (⟨#[45]⟩ : ByteArray)) ++ ((⟨#[74, 97, 110, 70, 101, 98, 77, 97, 114, 65, 112, 114, 77, 97, 121, 74, 117, 110, 74, 117, 108, 65, 117, 103, 83, 101, 112, 79, 99, 116, 78, 111, 118, 68, 101, 99]⟩ : ByteArray).extract ((wrap64 ((wrap64 (3 * x132001)) - 3)) : Int).toNat ((wrap64 (3 * x132001)) : Int).toNat)) ++ (⟨#[45]⟩ : ByteArray)) ++ t137) ++ (⟨#[32]⟩ : ByteArray)) ++ ((((t134 ++ (⟨#[58]⟩ : ByteArray)) ++ t135) ++ (⟨#[58]⟩ : ByteArray)) ++ t136)) ++ (⟨#[32]⟩ : ByteArray)) ++ t138)) else (none))) else (none)) else (none)) else (none)) else (none))) else (none)) else (none)) else (none)) else (none)) else (none)) else (none)) else (none))) else (none)) else (none))) else (none))
def date_Print.f (k : Nat) (a0_0 : Int) (a0_1 : Int) (a0_2 : Int) (a0_3 : Int) (a0_4 : Int) (a0_5 : Int) (a0_6 : Int) : Option (ByteArray) := (date_Right.f k a0_0 a0_1 a0_2 a0_3 a0_4 a0_5 a0_6).bind fun t132 => (if t132 = true then ((date_digits.f k a0_2 2).bind fun t133 => (if a0_2 < 10 then (if 1 ≤ (t133.size : Int) then (if 1 + (t133.size - 1) ≤ 9223372036854775807 then (date_Print.j0 k ((⟨#[32]⟩ : ByteArray) ++ (t133.extract 1 t133.size)) a0_0 a0_1 a0_2 a0_3 a0_4 a0_5 a0_6) else (none)) else (none)) else (date_Print.j0 k t133 a0_0 a0_1 a0_2 a0_3 a0_4 a0_5 a0_6))) else (some (⟨#[]⟩ : ByteArray)))
theorem date_Print.mono_l : ∀ k, (∀ y0 y1 y2 y3 y4 y5 y6 y7, LeO (date_Print.j0 k y0 y1 y2 y3 y4 y5 y6 y7) (date_Print.j0 (k + 1) y0 y1 y2 y3 y4 y5 y6 y7))
 | 0 => fun _ _ _ _ _ _ _ _ r h => by simp [date_Print.j0] at h
 | k + 1 => by
  have ih0 := date_Print.mono_l k
  ·
   intro y0 y1 y2 y3 y4 y5 y6 y7
   unfold date_Print.j0
   repeat' first
   | (with_reducible exact ih0 _ _ _ _ _ _ _ _)
   | (with_reducible exact date_Right.mono _ _ _ _ _ _ _ _)
   | (with_reducible exact date_digits.mono _ _ _)
   | (with_reducible exact date_zone.mono _ _)
   | (with_reducible exact LeO.refl _)
   | (with_reducible exact LeO.none _)
   | (with_reducible refine LeO.ite ?_ ?_)
   | (with_reducible refine LeO.bind ?_ (fun _ => ?_))
   | exact ih0 _ _ _ _ _ _ _ _
   | exact date_Right.mono _ _ _ _ _ _ _ _
   | exact date_digits.mono _ _ _
   | exact date_zone.mono _ _
   | exact LeO.none _
   | refine LeO.ite ?_ ?_
   | refine LeO.bind ?_ (fun _ => ?_)
theorem date_Print.mono : ∀ a0 a1 a2 a3 a4 a5 a6 k, LeO (date_Print.f k a0 a1 a2 a3 a4 a5 a6) (date_Print.f (k + 1) a0 a1 a2 a3 a4 a5 a6) := by
 intro a0 a1 a2 a3 a4 a5 a6 k
 have ih0 := date_Print.mono_l k
 unfold date_Print.f
 repeat' first
   | (with_reducible exact ih0 _ _ _ _ _ _ _ _)
   | (with_reducible exact date_Right.mono _ _ _ _ _ _ _ _)
   | (with_reducible exact date_digits.mono _ _ _)
   | (with_reducible exact date_zone.mono _ _)
   | (with_reducible exact LeO.refl _)
   | (with_reducible exact LeO.none _)
   | (with_reducible refine LeO.ite ?_ ?_)
   | (with_reducible refine LeO.bind ?_ (fun _ => ?_))
   | exact ih0 _ _ _ _ _ _ _ _
   | exact date_Right.mono _ _ _ _ _ _ _ _
   | exact date_digits.mono _ _ _
   | exact date_zone.mono _ _
   | exact LeO.none _
   | refine LeO.ite ?_ ?_
   | refine LeO.bind ?_ (fun _ => ?_)
def date_Print.T6 : Bool × List (List Nat × List Nat) := (true, [([], []), ([0], [0]), ([1], [1]), ([2], [2]), ([], []), ([4], [4]), ([5, 2], [5]), ([3, 6], [3, 6]), ([7], [7]), ([], []), ([9], [9]), ([10, 6], [10]), ([8, 11], [8, 11]), ([12, 11, 0, 1, 2, 3, 4, 5, 6, 7, 8, 9, 10, 11, 12], [12])])
def date_Print.B6 : List Nat := [0, 1, 3, 7, 0, 16, 55, 127, 255, 0, 512, 1655, 4095, 8191]
theorem date_Print.tab6 : rtab .any (opsOf Tryd.f12 6) = date_Print.T6 := by kernel_rfl
theorem date_Print.bits6 : waitsOk date_Print.T6.2 date_Print.B6 = true := by kernel_rfl
def date_Print.T7 : Bool × List (List Nat × List Nat) := (true, [([], []), ([0], [0]), ([], []), ([2], [2]), ([3], [3]), ([4], [4]), ([], []), ([6], [6]), ([7], [7]), ([5, 8], [5, 8]), ([1, 9], [1, 9]), ([10], [10]), ([], []), ([12], [12]), ([13], [13]), ([11, 14], [11, 14]), ([15], [15]), ([], []), ([16, 17], [16, 17]), ([18], [18]), ([], []), ([20], [20]), ([21, 14], [21]), ([19, 22], [19, 22]), ([23, 22, 0, 1, 2, 3, 4, 5, 6, 7, 8, 9, 10, 11, 12, 13, 14, 15, 16, 17, 18, 19, 20, 21, 22, 23], [23])])
def date_Print.B7 : List Nat := [0, 1, 0, 4, 12, 28, 0, 64, 192, 508, 1023, 2047, 0, 4096, 12288, 32767, 65535, 0, 262143, 524287, 0, 1048576, 3174400, 8388607, 16777215]
theorem date_Print.tab7 : rtab .any (opsOf Tryd.f12 7) = date_Print.T7 := by kernel_rfl
theorem date_Print.bits7 : waitsOk date_Print.T7.2 date_Print.B7 = true := by kernel_rfl
set_option maxHeartbeats 8000000 in
set_option maxRecDepth 100000 in
theorem date_Print.calls (k : Nat) (a0_0 : Int) (a0_1 : Int) (a0_2 : Int) (a0_3 : Int) (a0_4 : Int) (a0_5 : Int) (a0_6 : Int) (r : ByteArray) (w : World) (h : date_Print.f k a0_0 a0_1 a0_2 a0_3 a0_4 a0_5 a0_6 = some r) :
  Calls Tryd.prog 12 #[.agg #[.int .i64 a0_0, .int .i64 a0_1, .int .i64 a0_2, .int .i64 a0_3, .int .i64 a0_4, .int .i64 a0_5, .int .i64 a0_6]] w fun e w' => e = .returned (.string r) ∧ Below w.heap.size w w' := by
 have hu24 := Tryd.underlying24
 have HB := Aside0.mk (Below.refl w.heap.size w)
 have H : ((date_Right.f k a0_0 a0_1 a0_2 a0_3 a0_4 a0_5 a0_6).bind fun t132 => (if t132 = true then ((date_digits.f k a0_2 2).bind fun t133 => (if a0_2 < 10 then (if 1 ≤ (t133.size : Int) then (if 1 + (t133.size - 1) ≤ 9223372036854775807 then (date_Print.j0 k ((⟨#[32]⟩ : ByteArray) ++ (t133.extract 1 t133.size)) a0_0 a0_1 a0_2 a0_3 a0_4 a0_5 a0_6) else (none)) else (none)) else (date_Print.j0 k t133 a0_0 a0_1 a0_2 a0_3 a0_4 a0_5 a0_6))) else (some (⟨#[]⟩ : ByteArray)))) = some r := h
 clear h
 replace H := Option.bind_eq_some_iff.mp H
 obtain ⟨t132, A20, H⟩ := H
 replace H : (if t132 = true then ((date_digits.f k a0_2 2).bind fun t133 => (if a0_2 < 10 then (if 1 ≤ (t133.size : Int) then (if 1 + (t133.size - 1) ≤ 9223372036854775807 then (date_Print.j0 k ((⟨#[32]⟩ : ByteArray) ++ (t133.extract 1 t133.size)) a0_0 a0_1 a0_2 a0_3 a0_4 a0_5 a0_6) else (none)) else (none)) else (date_Print.j0 k t133 a0_0 a0_1 a0_2 a0_3 a0_4 a0_5 a0_6))) else (some (⟨#[]⟩ : ByteArray))) = some r := H
 have A2 := Aside0.mk A20
 clear A20
 by_cases c3 : t132 = true
 ·
  subst c3
  have H1 : ((date_digits.f k a0_2 2).bind fun t133 => (if a0_2 < 10 then (if 1 ≤ (t133.size : Int) then (if 1 + (t133.size - 1) ≤ 9223372036854775807 then (date_Print.j0 k ((⟨#[32]⟩ : ByteArray) ++ (t133.extract 1 t133.size)) a0_0 a0_1 a0_2 a0_3 a0_4 a0_5 a0_6) else (none)) else (none)) else (date_Print.j0 k t133 a0_0 a0_1 a0_2 a0_3 a0_4 a0_5 a0_6))) = some r := by rw [if_pos rfl] at H; exact H
  clear H
  have H := H1
  clear H1
  replace H := Option.bind_eq_some_iff.mp H
  obtain ⟨t133, A40, H⟩ := H
  replace H : (if a0_2 < 10 then (if 1 ≤ (t133.size : Int) then (if 1 + (t133.size - 1) ≤ 9223372036854775807 then (date_Print.j0 k ((⟨#[32]⟩ : ByteArray) ++ (t133.extract 1 t133.size)) a0_0 a0_1 a0_2 a0_3 a0_4 a0_5 a0_6) else (none)) else (none)) else (date_Print.j0 k t133 a0_0 a0_1 a0_2 a0_3 a0_4 a0_5 a0_6)) = some r := H
  have A4 := Aside0.mk A40
  clear A40
  have HC5 := Aside0.mk H
  clear H
  go_enter Tryd.func12, Tryd.ntmps12
  go_upto_if 13 with (first | ((with_reducible refine gate_dst (N := 1) rfl ?_); refine box_event ?hg (N := 1) ?hd (cs := #[.int .i64 a0_0, .int .i64 a0_1, .int .i64 a0_2, .int .i64 a0_3, .int .i64 a0_4, .int .i64 a0_5, .int .i64 a0_6]) (t := 24) ?hr ?_; (case hd => rfl); (case hg => rfl); (case hr => first | (go_simp; done) | (go_simp; rfl)); intro gb131 hg w6 hbox hb; have n0_ := Aside0.mk (below_step (by repeat (first | (with_reducible first | exact HB.out | apply below_alloc | apply pw_below_drewN | apply below_drew1) | exact HB.out)) hb); have n1_ := Aside0.mk (hbox); have n2_ := Aside0.mk ((by rw [hg]; exact (below_size (by repeat (first | (with_reducible first | exact HB.out | apply below_alloc | apply pw_below_drewN | apply below_drew1) | exact HB.out))) : w.heap.size ≤ gb131)); have n3_ := Aside0.mk ((by rw [hg]; exact (below_size (by repeat (first | (with_reducible first | exact HB.out | apply below_alloc | apply pw_below_drewN | apply below_drew1) | exact HB.out))) : w.heap.size ≤ gb131)); clear HB; have HB := n0_; have BK131 := n1_; have GW131 := n2_; have GE131 := n3_; clear n0_ n1_ n2_ n3_; clear hb hbox hg; have hcz7_0 : w6.cell? ⟨gb131, 0, none⟩ = some (.int .i64 a0_0) := (blk_cell BK131.out 0).trans rfl; have hcz7_1 : w6.cell? ⟨gb131, 1, none⟩ = some (.int .i64 a0_1) := (blk_cell BK131.out 1).trans rfl; have hcz7_2 : w6.cell? ⟨gb131, 2, none⟩ = some (.int .i64 a0_2) := (blk_cell BK131.out 2).trans rfl; have hcz7_3 : w6.cell? ⟨gb131, 3, none⟩ = some (.int .i64 a0_3) := (blk_cell BK131.out 3).trans rfl; have hcz7_4 : w6.cell? ⟨gb131, 4, none⟩ = some (.int .i64 a0_4) := (blk_cell BK131.out 4).trans rfl; have hcz7_5 : w6.cell? ⟨gb131, 5, none⟩ = some (.int .i64 a0_5) := (blk_cell BK131.out 5).trans rfl; have hcz7_6 : w6.cell? ⟨gb131, 6, none⟩ = some (.int .i64 a0_6) := (blk_cell BK131.out 6).trans rfl; have hfz7_0 := blk_frozen BK131.out 0; have hfz7_1 := blk_frozen BK131.out 1; have hfz7_2 := blk_frozen BK131.out 2; have hfz7_3 := blk_frozen BK131.out 3; have hfz7_4 := blk_frozen BK131.out 4; have hfz7_5 := blk_frozen BK131.out 5; have hfz7_6 := blk_frozen BK131.out 6) | ((with_reducible refine gate_callee (f := 13) rfl ?_); refine goesL_ (some 6) rfl rfl Tryd.func13 (by kernel_rfl) rfl #[.agg #[.int .i64 a0_0, .int .i64 a0_1, .int .i64 a0_2, .int .i64 a0_3, .int .i64 a0_4, .int .i64 a0_5, .int .i64 a0_6]] rfl (by (try simp only [List.map_toArray, List.map_cons, List.map_nil]); first | done | rfl | (simp only [List.length_drop, List.length_take]; rfl)) ?_; (with_reducible refine (date_Right.calls k a0_0 a0_1 a0_2 a0_3 a0_4 a0_5 a0_6 true _ A2.out).mono ?_); rintro e w8 ⟨rfl, hb⟩; refine ⟨_, rfl, ?_⟩; have n0_ := Aside0.mk (blk_below (g := gb131) (o := .cells #[.int .i64 a0_0, .int .i64 a0_1, .int .i64 a0_2, .int .i64 a0_3, .int .i64 a0_4, .int .i64 a0_5, .int .i64 a0_6] 24 (0, 0)) (by (with_reducible repeat (first | refine blk_drewN ?_ _ | refine blk_drew ?_ | refine blk_alloc ?_ _)); exact BK131.out) hb); have n1_ := Aside0.mk (below_step (by repeat (first | (with_reducible first | exact HB.out | apply below_alloc | apply pw_below_drewN | apply below_drew1 | refine below_set ?_ GE131.out) | exact HB.out)) hb); clear BK131; clear HB; have BK131 := n0_; have HB := n1_; clear n0_ n1_; (try clear hb); (try clear hb2); (try clear hk); (try clear hi); have hcz9_0 : w8.cell? ⟨gb131, 0, none⟩ = some (.int .i64 a0_0) := (blk_cell BK131.out 0).trans rfl; have hcz9_1 : w8.cell? ⟨gb131, 1, none⟩ = some (.int .i64 a0_1) := (blk_cell BK131.out 1).trans rfl; have hcz9_2 : w8.cell? ⟨gb131, 2, none⟩ = some (.int .i64 a0_2) := (blk_cell BK131.out 2).trans rfl; have hcz9_3 : w8.cell? ⟨gb131, 3, none⟩ = some (.int .i64 a0_3) := (blk_cell BK131.out 3).trans rfl; have hcz9_4 : w8.cell? ⟨gb131, 4, none⟩ = some (.int .i64 a0_4) := (blk_cell BK131.out 4).trans rfl; have hcz9_5 : w8.cell? ⟨gb131, 5, none⟩ = some (.int .i64 a0_5) := (blk_cell BK131.out 5).trans rfl; have hcz9_6 : w8.cell? ⟨gb131, 6, none⟩ = some (.int .i64 a0_6) := (blk_cell BK131.out 6).trans rfl; have hfz9_0 := blk_frozen BK131.out 0; have hfz9_1 := blk_frozen BK131.out 1; have hfz9_2 := blk_frozen BK131.out 2; have hfz9_3 := blk_frozen BK131.out 3; have hfz9_4 := blk_frozen BK131.out 4; have hfz9_5 := blk_frozen BK131.out 5; have hfz9_6 := blk_frozen BK131.out 6) | ((with_reducible refine gate_callee (f := 41) rfl ?_); refine goesL_ (some 10) rfl rfl Tryd.func41 (by kernel_rfl) rfl #[.int .i64 a0_2, .int .i64 2] rfl (by (try simp only [List.map_toArray, List.map_cons, List.map_nil]); first | done | rfl | (simp only [List.length_drop, List.length_take]; rfl)) ?_; (with_reducible refine (date_digits.calls k a0_2 2 t133 _ A4.out).mono ?_); rintro e w10 ⟨rfl, hb⟩; refine ⟨_, rfl, ?_⟩; have n0_ := Aside0.mk (blk_below (g := gb131) (o := .cells #[.int .i64 a0_0, .int .i64 a0_1, .int .i64 a0_2, .int .i64 a0_3, .int .i64 a0_4, .int .i64 a0_5, .int .i64 a0_6] 24 (0, 0)) (by (with_reducible repeat (first | refine blk_drewN ?_ _ | refine blk_drew ?_ | refine blk_alloc ?_ _)); exact BK131.out) hb); have n1_ := Aside0.mk (below_step (by repeat (first | (with_reducible first | exact HB.out | apply below_alloc | apply pw_below_drewN | apply below_drew1 | refine below_set ?_ GE131.out) | exact HB.out)) hb); clear BK131; clear HB; have BK131 := n0_; have HB := n1_; clear n0_ n1_; (try clear hb); (try clear hb2); (try clear hk); (try clear hi); have hcz11_0 : w10.cell? ⟨gb131, 0, none⟩ = some (.int .i64 a0_0) := (blk_cell BK131.out 0).trans rfl; have hcz11_1 : w10.cell? ⟨gb131, 1, none⟩ = some (.int .i64 a0_1) := (blk_cell BK131.out 1).trans rfl; have hcz11_2 : w10.cell? ⟨gb131, 2, none⟩ = some (.int .i64 a0_2) := (blk_cell BK131.out 2).trans rfl; have hcz11_3 : w10.cell? ⟨gb131, 3, none⟩ = some (.int .i64 a0_3) := (blk_cell BK131.out 3).trans rfl; have hcz11_4 : w10.cell? ⟨gb131, 4, none⟩ = some (.int .i64 a0_4) := (blk_cell BK131.out 4).trans rfl; have hcz11_5 : w10.cell? ⟨gb131, 5, none⟩ = some (.int .i64 a0_5) := (blk_cell BK131.out 5).trans rfl; have hcz11_6 : w10.cell? ⟨gb131, 6, none⟩ = some (.int .i64 a0_6) := (blk_cell BK131.out 6).trans rfl; have hfz11_0 := blk_frozen BK131.out 0; have hfz11_1 := blk_frozen BK131.out 1; have hfz11_2 := blk_frozen BK131.out 2; have hfz11_3 := blk_frozen BK131.out 3; have hfz11_4 := blk_frozen BK131.out 4; have hfz11_5 := blk_frozen BK131.out 5; have hfz11_6 := blk_frozen BK131.out 6))
  (try simp only [Act.put, List.setIfInBounds_toArray, List.set_cons_zero, List.set_cons_succ])
  go_cut [3] (fun v3 wc => ∃ (kq : Nat) (x3_4 : ByteArray), v3 = .string x3_4 ∧ Aside0 (date_Print.j0 kq x3_4 a0_0 a0_1 a0_2 a0_3 a0_4 a0_5 a0_6 = some r) ∧ Aside0 (kq ≤ k) ∧ Aside0 (wc.heap[gb131]? = some (.cells #[.int .i64 a0_0, .int .i64 a0_1, .int .i64 a0_2, .int .i64 a0_3, .int .i64 a0_4, .int .i64 a0_5, .int .i64 a0_6] 24 (0, 0))) ∧ Aside0 (Below w.heap.size w wc))
  case first =>
   have H := HC5.out
   clear HC5
   by_cases c12 : a0_2 < 10
   ·
    rw [if_pos c12] at H
    have c12b0 : decide (a0_2 < 10) = true := decide_eq_true c12
    clear c12
    (first | rw [c12b0] | (simp only [i64_w, i32_w]; rw [c12b0]) | skip)
    by_cases c13 : 1 ≤ (t133.size : Int)
    ·
     rw [if_pos c13] at H
     have c13b0 := eq_true c13
     have c13b1 : decide (1 ≤ (t133.size : Int)) = true := decide_eq_true c13
     clear c13
     by_cases c14 : 1 + (t133.size - 1) ≤ 9223372036854775807
     ·
      rw [if_pos c14] at H
      have c14b0 := eq_true c14
      have c14b1 : decide (1 + (t133.size - 1) ≤ 9223372036854775807) = true := decide_eq_true c14
      try have c14b2 : (9223372036854775807 < 1 + (t133.size - 1)) = False := eq_false (Nat.not_lt.2 c14)
      have H' := Aside0.mk H
      clear H
      go_wp2
      go_meet
      case rel => exact ⟨_, ((⟨#[32]⟩ : ByteArray) ++ (t133.extract 1 t133.size)), (by first | with_reducible rfl | (simp only [pps, Nat.reduceAdd]; done) | rfl | (simp; done) | (simp [*]; done)), H', ⟨by first | omega | exact Nat.le_refl _⟩, ⟨by (with_reducible repeat (first | refine blk_drewN ?_ _ | refine blk_drew ?_ | refine blk_alloc ?_ _)); exact BK131.out⟩, ⟨by repeat (first | (with_reducible first | exact HB.out | apply below_alloc | apply pw_below_drewN | apply below_drew1 | refine below_set ?_ GE131.out) | exact HB.out)⟩⟩
     ·
      rw [if_neg c14] at H
      exact absurd H (by simp)
    ·
     rw [if_neg c13] at H
     exact absurd H (by simp)
   ·
    rw [if_neg c12] at H
    have c12b0 : decide (a0_2 < 10) = false := decide_eq_false c12
    clear c12
    (first | rw [c12b0] | (simp only [i64_w, i32_w]; rw [c12b0]) | skip)
    have H' := Aside0.mk H
    clear H
    go_wp2
    go_meet
    case rel => exact ⟨_, (t133), (by first | with_reducible rfl | (simp only [pps, Nat.reduceAdd]; done) | rfl | (simp; done) | (simp [*]; done)), H', ⟨by first | omega | exact Nat.le_refl _⟩, ⟨by (with_reducible repeat (first | refine blk_drewN ?_ _ | refine blk_drew ?_ | refine blk_alloc ?_ _)); exact BK131.out⟩, ⟨by repeat (first | (with_reducible first | exact HB.out | apply below_alloc | apply pw_below_drewN | apply below_drew1 | refine below_set ?_ GE131.out) | exact HB.out)⟩⟩
  case rest =>
   clear HC5
   try clear c1
   try clear p2
   try clear c3
   try clear c4
   try clear c12
   try clear c12b0
   try clear c13
   try clear c13b0
   try clear c13b1
   try clear c14
   try clear c14b0
   try clear c14b1
   try clear c14b2
   try clear hcz11_0
   try clear hcz11_1
   try clear hcz11_2
   try clear hcz11_3
   try clear hcz11_4
   try clear hcz11_5
   try clear hcz11_6
   try clear hcz7_0
   try clear hcz7_1
   try clear hcz7_2
   try clear hcz7_3
   try clear hcz7_4
   try clear hcz7_5
   try clear hcz7_6
   try clear hcz9_0
   try clear hcz9_1
   try clear hcz9_2
   try clear hcz9_3
   try clear hcz9_4
   try clear hcz9_5
   try clear hcz9_6
   try clear hfz11_0
   try clear hfz11_1
   try clear hfz11_2
   try clear hfz11_3
   try clear hfz11_4
   try clear hfz11_5
   try clear hfz11_6
   try clear hfz7_0
   try clear hfz7_1
   try clear hfz7_2
   try clear hfz7_3
   try clear hfz7_4
   try clear hfz7_5
   try clear hfz7_6
   try clear hfz9_0
   try clear hfz9_1
   try clear hfz9_2
   try clear hfz9_3
   try clear hfz9_4
   try clear hfz9_5
   try clear hfz9_6
   obtain ⟨kq, x3_4, rfl, HA, HJ4, BK131, HB⟩ := hcut
   cases kq with
   | zero => exact absurd HA.out (by simp [date_Print.j0])
   | succ kj4 =>
    have H := HA.out
    clear HA
    simp only [date_Print.j0] at H
    replace H := Option.bind_eq_some_iff.mp H
    obtain ⟨t134, A150, H⟩ := H
    replace H : (if t134.size + 1 ≤ 9223372036854775807 then ((date_digits.f kj4 a0_4 2).bind fun t135 => (if t134.size + 1 + t135.size ≤ 9223372036854775807 then (if t134.size + 1 + t135.size + 1 ≤ 9223372036854775807 then ((date_digits.f kj4 a0_5 2).bind fun t136 => (if t134.size + 1 + t135.size + 1 + t136.size ≤ 9223372036854775807 then (if x3_4.size + 1 ≤ 9223372036854775807 then (if 0 ≤ (wrap64 ((wrap64 (3 * a0_1)) - 3)) then (if (wrap64 ((wrap64 (3 * a0_1)) - 3)) ≤ (wrap64 (3 * a0_1)) then (if (wrap64 (3 * a0_1)) ≤ 36 then (if x3_4.size + 1 + (((wrap64 (3 * a0_1)) : Int).toNat - ((wrap64 ((wrap64 (3 * a0_1)) - 3)) : Int).toNat) ≤ 9223372036854775807 then (if x3_4.size + 1 + (((wrap64 (3 * a0_1)) : Int).toNat - ((wrap64 ((wrap64 (3 * a0_1)) - 3)) : Int).toNat) + 1 ≤ 9223372036854775807 then ((date_digits.f kj4 a0_0 4).bind fun t137 => (if x3_4.size + 1 + (((wrap64 (3 * a0_1)) : Int).toNat - ((wrap64 ((wrap64 (3 * a0_1)) - 3)) : Int).toNat) + 1 + t137.size ≤ 9223372036854775807 then (if x3_4.size + 1 + (((wrap64 (3 * a0_1)) : Int).toNat - ((wrap64 ((wrap64 (3 * a0_1)) - 3)) : Int).toNat) + 1 + t137.size + 1 ≤ 9223372036854775807 then (if x3_4.size + 1 + (((wrap64 (3 * a0_1)) : Int).toNat - ((wrap64 ((wrap64 (3 * a0_1)) - 3)) : Int).toNat) + 1 + t137.size + 1 + (t134.size + 1 + t135.size + 1 + t136.size) ≤ 9223372036854775807 then (if x3_4.size + 1 + (((wrap64 (3 * a0_1)) : Int).toNat - ((wrap64 ((wrap64 (3 * a0_1)) - 3)) : Int).toNat) + 1 + t137.size + 1 + (t134.size + 1 + t135.size + 1 + t136.size) + 1 ≤ 9223372036854775807 then ((date_zone.f kj4 a0_6).bind fun t138 => (if x3_4.size + 1 + (((wrap64 (3 * a0_1)) : Int).toNat - ((wrap64 ((wrap64 (3 * a0_1)) - 3)) : Int).toNat) + 1 + t137.size + 1 + (t134.size + 1 + t135.size + 1 + t136.size) + 1 + t138.size ≤ 9223372036854775807 then (some ((((((((x3_4 ++ (⟨#[45]⟩ : ByteArray)) ++ ((⟨#[74, 97, 110, 70, 101, 98, 77, 97, 114, 65, 112, 114, 77, 97, 121, 74, 117, 110, 74, 117, 108, 65, 117, 103, 83, 101, 112, 79, 99, 116, 78, 111, 118, 68, 101, 99]⟩ : ByteArray).extract ((wrap64 ((wrap64 (3 * a0_1)) - 3)) : Int).toNat ((wrap64 (3 * a0_1)) : Int).toNat)) ++ (⟨#[45]⟩ : ByteArray)) ++ t137) ++ (⟨#[32]⟩ : ByteArray)) ++ ((((t134 ++ (⟨#[58]⟩ : ByteArray)) ++ t135) ++ (⟨#[58]⟩ : ByteArray)) ++ t136)) ++ (⟨#[32]⟩ : ByteArray)) ++ t138)) else (none))) else (none)) else (none)) else (none)) else (none))) else (none)) else (none)) else (none)) else (none)) else (none)) else (none)) else (none))) else (none)) else (none))) else (none)) = some r := H
    have A15 := Aside0.mk A150
    clear A150
    by_cases c16 : t134.size + 1 ≤ 9223372036854775807
    ·
     rw [if_pos c16] at H
     have c16b0 := eq_true c16
     have c16b1 : decide (t134.size + 1 ≤ 9223372036854775807) = true := decide_eq_true c16
     try have c16b2 : (9223372036854775807 < t134.size + 1) = False := eq_false (Nat.not_lt.2 c16)
     replace H := Option.bind_eq_some_iff.mp H
     obtain ⟨t135, A170, H⟩ := H
     replace H : (if t134.size + 1 + t135.size ≤ 9223372036854775807 then (if t134.size + 1 + t135.size + 1 ≤ 9223372036854775807 then ((date_digits.f kj4 a0_5 2).bind fun t136 => (if t134.size + 1 + t135.size + 1 + t136.size ≤ 9223372036854775807 then (if x3_4.size + 1 ≤ 9223372036854775807 then (if 0 ≤ (wrap64 ((wrap64 (3 * a0_1)) - 3)) then (if (wrap64 ((wrap64 (3 * a0_1)) - 3)) ≤ (wrap64 (3 * a0_1)) then (if (wrap64 (3 * a0_1)) ≤ 36 then (if x3_4.size + 1 + (((wrap64 (3 * a0_1)) : Int).toNat - ((wrap64 ((wrap64 (3 * a0_1)) - 3)) : Int).toNat) ≤ 9223372036854775807 then (if x3_4.size + 1 + (((wrap64 (3 * a0_1)) : Int).toNat - ((wrap64 ((wrap64 (3 * a0_1)) - 3)) : Int).toNat) + 1 ≤ 9223372036854775807 then ((date_digits.f kj4 a0_0 4).bind fun t137 => (if x3_4.size + 1 + (((wrap64 (3 * a0_1)) : Int).toNat - ((wrap64 ((wrap64 (3 * a0_1)) - 3)) : Int).toNat) + 1 + t137.size ≤ 9223372036854775807 then (if x3_4.size + 1 + (((wrap64 (3 * a0_1)) : Int).toNat - ((wrap64 ((wrap64 (3 * a0_1)) - 3)) : Int).toNat) + 1 + t137.size + 1 ≤ 9223372036854775807 then (if x3_4.size + 1 + (((wrap64 (3 * a0_1)) : Int).toNat - ((wrap64 ((wrap64 (3 * a0_1)) - 3)) : Int).toNat) + 1 + t137.size + 1 + (t134.size + 1 + t135.size + 1 + t136.size) ≤ 9223372036854775807 then (if x3_4.size + 1 + (((wrap64 (3 * a0_1)) : Int).toNat - ((wrap64 ((wrap64 (3 * a0_1)) - 3)) : Int).toNat) + 1 + t137.size + 1 + (t134.size + 1 + t135.size + 1 + t136.size) + 1 ≤ 9223372036854775807 then ((date_zone.f kj4 a0_6).bind fun t138 => (if x3_4.size + 1 + (((wrap64 (3 * a0_1)) : Int).toNat - ((wrap64 ((wrap64 (3 * a0_1)) - 3)) : Int).toNat) + 1 + t137.size + 1 + (t134.size + 1 + t135.size + 1 + t136.size) + 1 + t138.size ≤ 9223372036854775807 then (some ((((((((x3_4 ++ (⟨#[45]⟩ : ByteArray)) ++ ((⟨#[74, 97, 110, 70, 101, 98, 77, 97, 114, 65, 112, 114, 77, 97, 121, 74, 117, 110, 74, 117, 108, 65, 117, 103, 83, 101, 112, 79, 99, 116, 78, 111, 118, 68, 101, 99]⟩ : ByteArray).extract ((wrap64 ((wrap64 (3 * a0_1)) - 3)) : Int).toNat ((wrap64 (3 * a0_1)) : Int).toNat)) ++ (⟨#[45]⟩ : ByteArray)) ++ t137) ++ (⟨#[32]⟩ : ByteArray)) ++ ((((t134 ++ (⟨#[58]⟩ : ByteArray)) ++ t135) ++ (⟨#[58]⟩ : ByteArray)) ++ t136)) ++ (⟨#[32]⟩ : ByteArray)) ++ t138)) else (none))) else (none)) else (none)) else (none)) else (none))) else (none)) else (none)) else (none)) else (none)) else (none)) else (none)) else (none))) else (none)) else (none)) = some r := H
     have A17 := Aside0.mk A170
     clear A170
     by_cases c18 : t134.size + 1 + t135.size ≤ 9223372036854775807
     ·
      rw [if_pos c18] at H
      have c18b0 := eq_true c18
      have c18b1 : decide (t134.size + 1 + t135.size ≤ 9223372036854775807) = true := decide_eq_true c18
      try have c18b2 : (9223372036854775807 < t134.size + 1 + t135.size) = False := eq_false (Nat.not_lt.2 c18)
      by_cases c19 : t134.size + 1 + t135.size + 1 ≤ 9223372036854775807
      ·
       rw [if_pos c19] at H
       have c19b0 := eq_true c19
       have c19b1 : decide (t134.size + 1 + t135.size + 1 ≤ 9223372036854775807) = true := decide_eq_true c19
       try have c19b2 : (9223372036854775807 < t134.size + 1 + t135.size + 1) = False := eq_false (Nat.not_lt.2 c19)
       replace H := Option.bind_eq_some_iff.mp H
       obtain ⟨t136, A200, H⟩ := H
       replace H : (if t134.size + 1 + t135.size + 1 + t136.size ≤ 9223372036854775807 then (if x3_4.size + 1 ≤ 9223372036854775807 then (if 0 ≤ (wrap64 ((wrap64 (3 * a0_1)) - 3)) then (if (wrap64 ((wrap64 (3 * a0_1)) - 3)) ≤ (wrap64 (3 * a0_1)) then (if (wrap64 (3 * a0_1)) ≤ 36 then (if x3_4.size + 1 + (((wrap64 (3 * a0_1)) : Int).toNat - ((wrap64 ((wrap64 (3 * a0_1)) - 3)) : Int).toNat) ≤ 9223372036854775807 then (if x3_4.size + 1 + (((wrap64 (3 * a0_1)) : Int).toNat - ((wrap64 ((wrap64 (3 * a0_1)) - 3)) : Int).toNat) + 1 ≤ 9223372036854775807 then ((date_digits.f kj4 a0_0 4).bind fun t137 => (if x3_4.size + 1 + (((wrap64 (3 * a0_1)) : Int).toNat - ((wrap64 ((wrap64 (3 * a0_1)) - 3)) : Int).toNat) + 1 + t137.size ≤ 9223372036854775807 then (if x3_4.size + 1 + (((wrap64 (3 * a0_1)) : Int).toNat - ((wrap64 ((wrap64 (3 * a0_1)) - 3)) : Int).toNat) + 1 + t137.size + 1 ≤ 9223372036854775807 then (if x3_4.size + 1 + (((wrap64 (3 * a0_1)) : Int).toNat - ((wrap64 ((wrap64 (3 * a0_1)) - 3)) : Int).toNat) + 1 + t137.size + 1 + (t134.size + 1 + t135.size + 1 + t136.size) ≤ 9223372036854775807 then (if x3_4.size + 1 + (((wrap64 (3 * a0_1)) : Int).toNat - ((wrap64 ((wrap64 (3 * a0_1)) - 3)) : Int).toNat) + 1 + t137.size + 1 + (t134.size + 1 + t135.size + 1 + t136.size) + 1 ≤ 9223372036854775807 then ((date_zone.f kj4 a0_6).bind fun t138 => (if x3_4.size + 1 + (((wrap64 (3 * a0_1)) : Int).toNat - ((wrap64 ((wrap64 (3 * a0_1)) - 3)) : Int).toNat) + 1 + t137.size + 1 + (t134.size + 1 + t135.size + 1 + t136.size) + 1 + t138.size ≤ 9223372036854775807 then (some ((((((((x3_4 ++ (⟨#[45]⟩ : ByteArray)) ++ ((⟨#[74, 97, 110, 70, 101, 98, 77, 97, 114, 65, 112, 114, 77, 97, 121, 74, 117, 110, 74, 117, 108, 65, 117, 103, 83, 101, 112, 79, 99, 116, 78, 111, 118, 68, 101, 99]⟩ : ByteArray).extract ((wrap64 ((wrap64 (3 * a0_1)) - 3)) : Int).toNat ((wrap64 (3 * a0_1)) : Int).toNat)) ++ (⟨#[45]⟩ : ByteArray)) ++ t137) ++ (⟨#[32]⟩ : ByteArray)) ++ ((((t134 ++ (⟨#[58]⟩ : ByteArray)) ++ t135) ++ (⟨#[58]⟩ : ByteArray)) ++ t136)) ++ (⟨#[32]⟩ : ByteArray)) ++ t138)) else (none))) else (none)) else (none)) else (none)) else (none))) else (none)) else (none)) else (none)) else (none)) else (none)) else (none)) else (none)) = some r := H
       have A20 := Aside0.mk A200
       clear A200
       by_cases c21 : t134.size + 1 + t135.size + 1 + t136.size ≤ 9223372036854775807
       ·
        rw [if_pos c21] at H
        have c21b0 := eq_true c21
        have c21b1 : decide (t134.size + 1 + t135.size + 1 + t136.size ≤ 9223372036854775807) = true := decide_eq_true c21
        try have c21b2 : (9223372036854775807 < t134.size + 1 + t135.size + 1 + t136.size) = False := eq_false (Nat.not_lt.2 c21)
        by_cases c22 : x3_4.size + 1 ≤ 9223372036854775807
        ·
         rw [if_pos c22] at H
         have c22b0 := eq_true c22
         have c22b1 : decide (x3_4.size + 1 ≤ 9223372036854775807) = true := decide_eq_true c22
         try have c22b2 : (9223372036854775807 < x3_4.size + 1) = False := eq_false (Nat.not_lt.2 c22)
         obtain ⟨ji23, hji23⟩ : ∃ j_ : Int, (wrap64 ((wrap64 (3 * a0_1)) - 3)) = j_ := ⟨_, rfl⟩
         replace H : (if 0 ≤ (ji23) then (if (ji23) ≤ (wrap64 (3 * a0_1)) then (if (wrap64 (3 * a0_1)) ≤ 36 then (if x3_4.size + 1 + (((wrap64 (3 * a0_1)) : Int).toNat - ((ji23) : Int).toNat) ≤ 9223372036854775807 then (if x3_4.size + 1 + (((wrap64 (3 * a0_1)) : Int).toNat - ((ji23) : Int).toNat) + 1 ≤ 9223372036854775807 then ((date_digits.f kj4 a0_0 4).bind fun t137 => (if x3_4.size + 1 + (((wrap64 (3 * a0_1)) : Int).toNat - ((ji23) : Int).toNat) + 1 + t137.size ≤ 9223372036854775807 then (if x3_4.size + 1 + (((wrap64 (3 * a0_1)) : Int).toNat - ((ji23) : Int).toNat) + 1 + t137.size + 1 ≤ 9223372036854775807 then (if x3_4.size + 1 + (((wrap64 (3 * a0_1)) : Int).toNat - ((ji23) : Int).toNat) + 1 + t137.size + 1 + (t134.size + 1 + t135.size + 1 + t136.size) ≤ 9223372036854775807 then (if x3_4.size + 1 + (((wrap64 (3 * a0_1)) : Int).toNat - ((ji23) : Int).toNat) + 1 + t137.size + 1 + (t134.size + 1 + t135.size + 1 + t136.size) + 1 ≤ 9223372036854775807 then ((date_zone.f kj4 a0_6).bind fun t138 => (if x3_4.size + 1 + (((wrap64 (3 * a0_1)) : Int).toNat - ((ji23) : Int).toNat) + 1 + t137.size + 1 + (t134.size + 1 + t135.size + 1 + t136.size) + 1 + t138.size ≤ 9223372036854775807 then (some ((((((((x3_4 ++ (⟨#[45]⟩ : ByteArray)) ++ ((⟨#[74, 97, 110, 70, 101, 98, 77, 97, 114, 65, 112, 114, 77, 97, 121, 74, 117, 110, 74, 117, 108, 65, 117, 103, 83, 101, 112, 79, 99, 116, 78, 111, 118, 68, 101, 99]⟩ : ByteArray).extract ((ji23) : Int).toNat ((wrap64 (3 * a0_1)) : Int).toNat)) ++ (⟨#[45]⟩ : ByteArray)) ++ t137) ++ (⟨#[32]⟩ : ByteArray)) ++ ((((t134 ++ (⟨#[58]⟩ : ByteArray)) ++ t135) ++ (⟨#[58]⟩ : ByteArray)) ++ t136)) ++ (⟨#[32]⟩ : ByteArray)) ++ t138)) else (none))) else (none)) else (none)) else (none)) else (none))) else (none)) else (none)) else (none)) else (none)) else (none)) = some r := by first | (rw [hji23] at H; exact H) | (simp only [hji23] at H ⊢; exact H)
         (try rw [hji23] at A15)
         (try rw [hji23] at A17)
         (try rw [hji23] at A20)
         have hji23w : (IntKind.i64.wrap ((wrap64 (3 * a0_1)) - 3)) = ji23 := (i64_w _).trans hji23
         by_cases c24 : 0 ≤ (ji23)
         ·
          rw [if_pos c24] at H
          have c24b0 := eq_true c24
          have c24b1 : decide (0 ≤ (ji23)) = true := decide_eq_true c24
          clear c24
          by_cases c25 : (ji23) ≤ (wrap64 (3 * a0_1))
          ·
           rw [if_pos c25] at H
           have c25b0 := eq_true c25
           have c25b1 : decide ((ji23) ≤ (wrap64 (3 * a0_1))) = true := decide_eq_true c25
           clear c25
           by_cases c26 : (wrap64 (3 * a0_1)) ≤ 36
           ·
            rw [if_pos c26] at H
            have c26b0 := eq_true c26
            have c26b1 : decide ((wrap64 (3 * a0_1)) ≤ 36) = true := decide_eq_true c26
            clear c26
            by_cases c27 : x3_4.size + 1 + (((wrap64 (3 * a0_1)) : Int).toNat - ((ji23) : Int).toNat) ≤ 9223372036854775807
            ·
             rw [if_pos c27] at H
             have c27b0 := eq_true c27
             have c27b1 : decide (x3_4.size + 1 + (((wrap64 (3 * a0_1)) : Int).toNat - ((ji23) : Int).toNat) ≤ 9223372036854775807) = true := decide_eq_true c27
             try have c27b2 : (9223372036854775807 < x3_4.size + 1 + (((wrap64 (3 * a0_1)) : Int).toNat - ((ji23) : Int).toNat)) = False := eq_false (Nat.not_lt.2 c27)
             by_cases c28 : x3_4.size + 1 + (((wrap64 (3 * a0_1)) : Int).toNat - ((ji23) : Int).toNat) + 1 ≤ 9223372036854775807
             ·
              rw [if_pos c28] at H
              have c28b0 := eq_true c28
              have c28b1 : decide (x3_4.size + 1 + (((wrap64 (3 * a0_1)) : Int).toNat - ((ji23) : Int).toNat) + 1 ≤ 9223372036854775807) = true := decide_eq_true c28
              try have c28b2 : (9223372036854775807 < x3_4.size + 1 + (((wrap64 (3 * a0_1)) : Int).toNat - ((ji23) : Int).toNat) + 1) = False := eq_false (Nat.not_lt.2 c28)
              replace H := Option.bind_eq_some_iff.mp H
              obtain ⟨t137, A290, H⟩ := H
              replace H : (if x3_4.size + 1 + (((wrap64 (3 * a0_1)) : Int).toNat - ((ji23) : Int).toNat) + 1 + t137.size ≤ 9223372036854775807 then (if x3_4.size + 1 + (((wrap64 (3 * a0_1)) : Int).toNat - ((ji23) : Int).toNat) + 1 + t137.size + 1 ≤ 9223372036854775807 then (if x3_4.size + 1 + (((wrap64 (3 * a0_1)) : Int).toNat - ((ji23) : Int).toNat) + 1 + t137.size + 1 + (t134.size + 1 + t135.size + 1 + t136.size) ≤ 9223372036854775807 then (if x3_4.size + 1 + (((wrap64 (3 * a0_1)) : Int).toNat - ((ji23) : Int).toNat) + 1 + t137.size + 1 + (t134.size + 1 + t135.size + 1 + t136.size) + 1 ≤ 9223372036854775807 then ((date_zone.f kj4 a0_6).bind fun t138 => (if x3_4.size + 1 + (((wrap64 (3 * a0_1)) : Int).toNat - ((ji23) : Int).toNat) + 1 + t137.size + 1 + (t134.size + 1 + t135.size + 1 + t136.size) + 1 + t138.size ≤ 9223372036854775807 then (some ((((((((x3_4 ++ (⟨#[45]⟩ : ByteArray)) ++ ((⟨#[74, 97, 110, 70, 101, 98, 77, 97, 114, 65, 112, 114, 77, 97, 121, 74, 117, 110, 74, 117, 108, 65, 117, 103, 83, 101, 112, 79, 99, 116, 78, 111, 118, 68, 101, 99]⟩ : ByteArray).extract ((ji23) : Int).toNat ((wrap64 (3 * a0_1)) : Int).toNat)) ++ (⟨#[45]⟩ : ByteArray)) ++ t137) ++ (⟨#[32]⟩ : ByteArray)) ++ ((((t134 ++ (⟨#[58]⟩ : ByteArray)) ++ t135) ++ (⟨#[58]⟩ : ByteArray)) ++ t136)) ++ (⟨#[32]⟩ : ByteArray)) ++ t138)) else (none))) else (none)) else (none)) else (none)) else (none)) = some r := H
              have A29 := Aside0.mk A290
              clear A290
              by_cases c30 : x3_4.size + 1 + (((wrap64 (3 * a0_1)) : Int).toNat - ((ji23) : Int).toNat) + 1 + t137.size ≤ 9223372036854775807
              ·
               rw [if_pos c30] at H
               have c30b0 := eq_true c30
               have c30b1 : decide (x3_4.size + 1 + (((wrap64 (3 * a0_1)) : Int).toNat - ((ji23) : Int).toNat) + 1 + t137.size ≤ 9223372036854775807) = true := decide_eq_true c30
               try have c30b2 : (9223372036854775807 < x3_4.size + 1 + (((wrap64 (3 * a0_1)) : Int).toNat - ((ji23) : Int).toNat) + 1 + t137.size) = False := eq_false (Nat.not_lt.2 c30)
               by_cases c31 : x3_4.size + 1 + (((wrap64 (3 * a0_1)) : Int).toNat - ((ji23) : Int).toNat) + 1 + t137.size + 1 ≤ 9223372036854775807
               ·
                rw [if_pos c31] at H
                have c31b0 := eq_true c31
                have c31b1 : decide (x3_4.size + 1 + (((wrap64 (3 * a0_1)) : Int).toNat - ((ji23) : Int).toNat) + 1 + t137.size + 1 ≤ 9223372036854775807) = true := decide_eq_true c31
                try have c31b2 : (9223372036854775807 < x3_4.size + 1 + (((wrap64 (3 * a0_1)) : Int).toNat - ((ji23) : Int).toNat) + 1 + t137.size + 1) = False := eq_false (Nat.not_lt.2 c31)
                by_cases c32 : x3_4.size + 1 + (((wrap64 (3 * a0_1)) : Int).toNat - ((ji23) : Int).toNat) + 1 + t137.size + 1 + (t134.size + 1 + t135.size + 1 + t136.size) ≤ 9223372036854775807
                ·
                 rw [if_pos c32] at H
                 have c32b0 := eq_true c32
                 have c32b1 : decide (x3_4.size + 1 + (((wrap64 (3 * a0_1)) : Int).toNat - ((ji23) : Int).toNat) + 1 + t137.size + 1 + (t134.size + 1 + t135.size + 1 + t136.size) ≤ 9223372036854775807) = true := decide_eq_true c32
                 try have c32b2 : (9223372036854775807 < x3_4.size + 1 + (((wrap64 (3 * a0_1)) : Int).toNat - ((ji23) : Int).toNat) + 1 + t137.size + 1 + (t134.size + 1 + t135.size + 1 + t136.size)) = False := eq_false (Nat.not_lt.2 c32)
                 by_cases c33 : x3_4.size + 1 + (((wrap64 (3 * a0_1)) : Int).toNat - ((ji23) : Int).toNat) + 1 + t137.size + 1 + (t134.size + 1 + t135.size + 1 + t136.size) + 1 ≤ 9223372036854775807
                 ·
                  rw [if_pos c33] at H
                  have c33b0 := eq_true c33
                  have c33b1 : decide (x3_4.size + 1 + (((wrap64 (3 * a0_1)) : Int).toNat - ((ji23) : Int).toNat) + 1 + t137.size + 1 + (t134.size + 1 + t135.size + 1 + t136.size) + 1 ≤ 9223372036854775807) = true := decide_eq_true c33
                  try have c33b2 : (9223372036854775807 < x3_4.size + 1 + (((wrap64 (3 * a0_1)) : Int).toNat - ((ji23) : Int).toNat) + 1 + t137.size + 1 + (t134.size + 1 + t135.size + 1 + t136.size) + 1) = False := eq_false (Nat.not_lt.2 c33)
                  replace H := Option.bind_eq_some_iff.mp H
                  obtain ⟨t138, A340, H⟩ := H
                  replace H : (if x3_4.size + 1 + (((wrap64 (3 * a0_1)) : Int).toNat - ((ji23) : Int).toNat) + 1 + t137.size + 1 + (t134.size + 1 + t135.size + 1 + t136.size) + 1 + t138.size ≤ 9223372036854775807 then (some ((((((((x3_4 ++ (⟨#[45]⟩ : ByteArray)) ++ ((⟨#[74, 97, 110, 70, 101, 98, 77, 97, 114, 65, 112, 114, 77, 97, 121, 74, 117, 110, 74, 117, 108, 65, 117, 103, 83, 101, 112, 79, 99, 116, 78, 111, 118, 68, 101, 99]⟩ : ByteArray).extract ((ji23) : Int).toNat ((wrap64 (3 * a0_1)) : Int).toNat)) ++ (⟨#[45]⟩ : ByteArray)) ++ t137) ++ (⟨#[32]⟩ : ByteArray)) ++ ((((t134 ++ (⟨#[58]⟩ : ByteArray)) ++ t135) ++ (⟨#[58]⟩ : ByteArray)) ++ t136)) ++ (⟨#[32]⟩ : ByteArray)) ++ t138)) else (none)) = some r := H
                  have A34 := Aside0.mk A340
                  clear A340
                  by_cases c35 : x3_4.size + 1 + (((wrap64 (3 * a0_1)) : Int).toNat - ((ji23) : Int).toNat) + 1 + t137.size + 1 + (t134.size + 1 + t135.size + 1 + t136.size) + 1 + t138.size ≤ 9223372036854775807
                  ·
                   rw [if_pos c35] at H
                   have c35b0 := eq_true c35
                   have c35b1 : decide (x3_4.size + 1 + (((wrap64 (3 * a0_1)) : Int).toNat - ((ji23) : Int).toNat) + 1 + t137.size + 1 + (t134.size + 1 + t135.size + 1 + t136.size) + 1 + t138.size ≤ 9223372036854775807) = true := decide_eq_true c35
                   try have c35b2 : (9223372036854775807 < x3_4.size + 1 + (((wrap64 (3 * a0_1)) : Int).toNat - ((ji23) : Int).toNat) + 1 + t137.size + 1 + (t134.size + 1 + t135.size + 1 + t136.size) + 1 + t138.size) = False := eq_false (Nat.not_lt.2 c35)
                   obtain rfl := Option.some.inj H
                   try go_wp2
                   have n0_ := Aside0.mk (blk_drew BK131.out)
                   have n1_ := Aside0.mk (below_drew1 HB.out)
                   clear BK131
                   clear HB
                   have BK131 := n0_
                   have HB := n1_
                   clear n0_ n1_
                   refine start_ (n := 14) (S := fun w' => w'.cell? ⟨gb131, 0, none⟩ = some (.int .i64 a0_0) ∧ w'.cell? ⟨gb131, 1, none⟩ = some (.int .i64 a0_1) ∧ w'.cell? ⟨gb131, 2, none⟩ = some (.int .i64 a0_2) ∧ w'.cell? ⟨gb131, 3, none⟩ = some (.int .i64 a0_3) ∧ w'.cell? ⟨gb131, 4, none⟩ = some (.int .i64 a0_4) ∧ w'.cell? ⟨gb131, 5, none⟩ = some (.int .i64 a0_5) ∧ w'.cell? ⟨gb131, 6, none⟩ = some (.int .i64 a0_6)) (ds := []) #[false, false, false, false, false, false, false, false, false, false, false, false, false, false] (by kernel_rfl) rfl rfl ⟨(blk_cell BK131.out 0).trans rfl, (blk_cell BK131.out 1).trans rfl, (blk_cell BK131.out 2).trans rfl, (blk_cell BK131.out 3).trans rfl, (blk_cell BK131.out 4).trans rfl, (blk_cell BK131.out 5).trans rfl, (blk_cell BK131.out 6).trans rfl⟩ (fun hHeld => ?_); refine with_tabW date_Print.tab6 date_Print.bits6 (fun HT_ HW_ => ?_)
                   generalize wc.drew = w36 at BK131 HB hHeld ⊢
                   refine pure_ (i := 0) (N := some 17) (v := ?_) (a' := ?_) #[true, false, false, false, false, false, false, false, false, false, false, false, false, false] rfl rfl (any_of HT_.out (by kernel_rfl)) (fun _ _ _ h => h) (Or.inl ⟨by rfl, ?_⟩) ?_ ?_
                   rotate_left
                   ·
                    intro w'
                    go_simp
                    with_reducible rfl
                   rotate_left
                   ·
                    simp only [Act.put, List.setIfInBounds_toArray, List.set_cons_zero, List.set_cons_succ, i64_w, i32_w]
                    rfl
                   refine pure_ (i := 4) (N := some 21) (v := ?_) (a' := ?_) #[true, false, false, false, true, false, false, false, false, false, false, false, false, false] rfl rfl (any_of HT_.out (by kernel_rfl)) (fun _ _ _ h => h) (Or.inl ⟨by rfl, ?_⟩) ?_ ?_
                   rotate_left
                   ·
                    intro w'
                    go_simp
                    with_reducible rfl
                   rotate_left
                   ·
                    simp only [Act.put, List.setIfInBounds_toArray, List.set_cons_zero, List.set_cons_succ, i64_w, i32_w]
                    rfl
                   refine pure_ (i := 9) (N := some 26) (v := ?_) (a' := ?_) #[true, false, false, false, true, false, false, false, false, true, false, false, false, false] rfl rfl (any_of HT_.out (by kernel_rfl)) (fun _ _ _ h => h) (Or.inl ⟨by rfl, ?_⟩) ?_ ?_
                   rotate_left
                   ·
                    intro w'
                    go_simp
                    with_reducible rfl
                   rotate_left
                   ·
                    simp only [Act.put, List.setIfInBounds_toArray, List.set_cons_zero, List.set_cons_succ, i64_w, i32_w]
                    rfl
                   refine take_ (i := 1) (N := some 18) (v := ?_) (a' := ?_) #[true, true, false, false, true, false, false, false, false, true, false, false, false, false] rfl rfl (take_ofW HT_.out HW_.out (by kernel_rfl)) (fun _ _ _ h => h) (Or.inl ⟨by rfl, ?_⟩) hHeld ?_ ?_
                   rotate_left
                   ·
                    rintro w' ⟨s0, s1, s2, s3, s4, s5, s6⟩
                    go_simp
                    with_reducible rfl
                   rotate_left
                   ·
                    simp only [Act.put, List.setIfInBounds_toArray, List.set_cons_zero, List.set_cons_succ, i64_w, i32_w]
                    rfl
                   refine take_ (i := 5) (N := some 22) (v := ?_) (a' := ?_) #[true, true, false, false, true, true, false, false, false, true, false, false, false, false] rfl rfl (take_ofW HT_.out HW_.out (by kernel_rfl)) (fun _ _ _ h => h) (Or.inl ⟨by rfl, ?_⟩) hHeld ?_ ?_
                   rotate_left
                   ·
                    rintro w' ⟨s0, s1, s2, s3, s4, s5, s6⟩
                    go_simp
                    with_reducible rfl
                   rotate_left
                   ·
                    simp only [Act.put, List.setIfInBounds_toArray, List.set_cons_zero, List.set_cons_succ, i64_w, i32_w]
                    rfl
                   refine take_ (i := 10) (N := some 27) (v := ?_) (a' := ?_) #[true, true, false, false, true, true, false, false, false, true, true, false, false, false] rfl rfl (take_ofW HT_.out HW_.out (by kernel_rfl)) (fun _ _ _ h => h) (Or.inl ⟨by rfl, ?_⟩) hHeld ?_ ?_
                   rotate_left
                   ·
                    rintro w' ⟨s0, s1, s2, s3, s4, s5, s6⟩
                    go_simp
                    with_reducible rfl
                   rotate_left
                   ·
                    simp only [Act.put, List.setIfInBounds_toArray, List.set_cons_zero, List.set_cons_succ, i64_w, i32_w]
                    rfl
                   refine one_ (i := 2) (N := some 19) #[true, true, true, false, true, true, false, false, false, true, true, false, false, false] rfl rfl (one_of HT_.out (by kernel_rfl)) (by decide) (fun K hK => ?_)
                   refine goes_ Tryd.func41 (by kernel_rfl) rfl #[.int .i64 a0_3, .int .i64 2] (by rfl) rfl rfl (by (try simp only [List.map_toArray, List.map_cons, List.map_nil]); first | done | rfl | (simp only [List.length_drop, List.length_take]; rfl)) ?_
                   with_reducible refine (date_digits.calls kj4 a0_3 2 t134 _ A15.out).mono ?_
                   rintro e w37 ⟨rfl, hb⟩
                   refine ⟨_, rfl, ?_⟩
                   have n0_ := Aside0.mk (blk_below (g := gb131) (o := .cells #[.int .i64 a0_0, .int .i64 a0_1, .int .i64 a0_2, .int .i64 a0_3, .int .i64 a0_4, .int .i64 a0_5, .int .i64 a0_6] 24 (0, 0)) (by (with_reducible repeat (first | refine blk_drewN ?_ _ | refine blk_drew ?_ | refine blk_alloc ?_ _)); exact BK131.out) hb)
                   have n1_ := Aside0.mk (below_step (by repeat (first | (with_reducible first | exact HB.out | apply below_alloc | apply pw_below_drewN | apply below_drew1 | refine below_set ?_ GE131.out) | exact HB.out)) hb)
                   clear BK131
                   clear HB
                   have BK131 := n0_
                   have HB := n1_
                   clear n0_ n1_
                   (try clear hb)
                   (try clear hb2)
                   (try clear hk)
                   (try clear hi)
                   refine hK.out _ _ ⟨(blk_cell BK131.out 0).trans rfl, (blk_cell BK131.out 1).trans rfl, (blk_cell BK131.out 2).trans rfl, (blk_cell BK131.out 3).trans rfl, (blk_cell BK131.out 4).trans rfl, (blk_cell BK131.out 5).trans rfl, (blk_cell BK131.out 6).trans rfl⟩ (fun hHeld => ?_)
                   clear hK K
                   refine norm_ (a' := ?_) ?_ ?_
                   rotate_left
                   ·
                    show Act.put _ (some 19) _ = _
                    simp only [Act.put, List.setIfInBounds_toArray, List.set_cons_zero, List.set_cons_succ, i64_w, i32_w]
                    rfl
                   refine pure_ (i := 3) (N := some 20) (v := ?_) (a' := ?_) #[true, true, true, true, true, true, false, false, false, true, true, false, false, false] rfl rfl (any_of HT_.out (by kernel_rfl)) (fun _ _ _ h => h) (Or.inl ⟨by rfl, ?_⟩) ?_ ?_
                   rotate_left
                   ·
                    intro w'
                    go_simp
                    with_reducible rfl
                   rotate_left
                   ·
                    simp only [Act.put, List.setIfInBounds_toArray, List.set_cons_zero, List.set_cons_succ, i64_w, i32_w]
                    rfl
                   refine one_ (i := 6) (N := some 23) #[true, true, true, true, true, true, true, false, false, true, true, false, false, false] rfl rfl (one_of HT_.out (by kernel_rfl)) (by decide) (fun K hK => ?_)
                   refine goes_ Tryd.func41 (by kernel_rfl) rfl #[.int .i64 a0_4, .int .i64 2] (by rfl) rfl rfl (by (try simp only [List.map_toArray, List.map_cons, List.map_nil]); first | done | rfl | (simp only [List.length_drop, List.length_take]; rfl)) ?_
                   with_reducible refine (date_digits.calls kj4 a0_4 2 t135 _ A17.out).mono ?_
                   rintro e w38 ⟨rfl, hb⟩
                   refine ⟨_, rfl, ?_⟩
                   have n0_ := Aside0.mk (blk_below (g := gb131) (o := .cells #[.int .i64 a0_0, .int .i64 a0_1, .int .i64 a0_2, .int .i64 a0_3, .int .i64 a0_4, .int .i64 a0_5, .int .i64 a0_6] 24 (0, 0)) (by (with_reducible repeat (first | refine blk_drewN ?_ _ | refine blk_drew ?_ | refine blk_alloc ?_ _)); exact BK131.out) hb)
                   have n1_ := Aside0.mk (below_step (by repeat (first | (with_reducible first | exact HB.out | apply below_alloc | apply pw_below_drewN | apply below_drew1 | refine below_set ?_ GE131.out) | exact HB.out)) hb)
                   clear BK131
                   clear HB
                   have BK131 := n0_
                   have HB := n1_
                   clear n0_ n1_
                   (try clear hb)
                   (try clear hb2)
                   (try clear hk)
                   (try clear hi)
                   refine hK.out _ _ ⟨(blk_cell BK131.out 0).trans rfl, (blk_cell BK131.out 1).trans rfl, (blk_cell BK131.out 2).trans rfl, (blk_cell BK131.out 3).trans rfl, (blk_cell BK131.out 4).trans rfl, (blk_cell BK131.out 5).trans rfl, (blk_cell BK131.out 6).trans rfl⟩ (fun hHeld => ?_)
                   clear hK K
                   refine norm_ (a' := ?_) ?_ ?_
                   rotate_left
                   ·
                    show Act.put _ (some 23) _ = _
                    simp only [Act.put, List.setIfInBounds_toArray, List.set_cons_zero, List.set_cons_succ, i64_w, i32_w]
                    rfl
                   refine pure_ (i := 7) (N := some 24) (v := ?_) (a' := ?_) #[true, true, true, true, true, true, true, true, false, true, true, false, false, false] rfl rfl (any_of HT_.out (by kernel_rfl)) (fun _ _ _ h => h) (Or.inl ⟨by rfl, ?_⟩) ?_ ?_
                   rotate_left
                   ·
                    intro w'
                    go_simp
                    with_reducible rfl
                   rotate_left
                   ·
                    simp only [Act.put, List.setIfInBounds_toArray, List.set_cons_zero, List.set_cons_succ, i64_w, i32_w]
                    rfl
                   refine pure_ (i := 8) (N := some 25) (v := ?_) (a' := ?_) #[true, true, true, true, true, true, true, true, true, true, true, false, false, false] rfl rfl (any_of HT_.out (by kernel_rfl)) (fun _ _ _ h => h) (Or.inl ⟨by rfl, ?_⟩) ?_ ?_
                   rotate_left
                   ·
                    intro w'
                    go_simp
                    with_reducible rfl
                   rotate_left
                   ·
                    simp only [Act.put, List.setIfInBounds_toArray, List.set_cons_zero, List.set_cons_succ, i64_w, i32_w]
                    rfl
                   refine one_ (i := 11) (N := some 28) #[true, true, true, true, true, true, true, true, true, true, true, true, false, false] rfl rfl (one_of HT_.out (by kernel_rfl)) (by decide) (fun K hK => ?_)
                   refine goes_ Tryd.func41 (by kernel_rfl) rfl #[.int .i64 a0_5, .int .i64 2] (by rfl) rfl rfl (by (try simp only [List.map_toArray, List.map_cons, List.map_nil]); first | done | rfl | (simp only [List.length_drop, List.length_take]; rfl)) ?_
                   with_reducible refine (date_digits.calls kj4 a0_5 2 t136 _ A20.out).mono ?_
                   rintro e w39 ⟨rfl, hb⟩
                   refine ⟨_, rfl, ?_⟩
                   have n0_ := Aside0.mk (blk_below (g := gb131) (o := .cells #[.int .i64 a0_0, .int .i64 a0_1, .int .i64 a0_2, .int .i64 a0_3, .int .i64 a0_4, .int .i64 a0_5, .int .i64 a0_6] 24 (0, 0)) (by (with_reducible repeat (first | refine blk_drewN ?_ _ | refine blk_drew ?_ | refine blk_alloc ?_ _)); exact BK131.out) hb)
                   have n1_ := Aside0.mk (below_step (by repeat (first | (with_reducible first | exact HB.out | apply below_alloc | apply pw_below_drewN | apply below_drew1 | refine below_set ?_ GE131.out) | exact HB.out)) hb)
                   clear BK131
                   clear HB
                   have BK131 := n0_
                   have HB := n1_
                   clear n0_ n1_
                   (try clear hb)
                   (try clear hb2)
                   (try clear hk)
                   (try clear hi)
                   refine hK.out _ _ ⟨(blk_cell BK131.out 0).trans rfl, (blk_cell BK131.out 1).trans rfl, (blk_cell BK131.out 2).trans rfl, (blk_cell BK131.out 3).trans rfl, (blk_cell BK131.out 4).trans rfl, (blk_cell BK131.out 5).trans rfl, (blk_cell BK131.out 6).trans rfl⟩ (fun hHeld => ?_)
                   clear hK K
                   refine norm_ (a' := ?_) ?_ ?_
                   rotate_left
                   ·
                    show Act.put _ (some 28) _ = _
                    simp only [Act.put, List.setIfInBounds_toArray, List.set_cons_zero, List.set_cons_succ, i64_w, i32_w]
                    rfl
                   refine pure_ (i := 12) (N := some 29) (v := ?_) (a' := ?_) #[true, true, true, true, true, true, true, true, true, true, true, true, true, false] rfl rfl (any_of HT_.out (by kernel_rfl)) (fun _ _ _ h => h) (Or.inl ⟨by rfl, ?_⟩) ?_ ?_
                   rotate_left
                   ·
                    intro w'
                    go_simp
                    with_reducible rfl
                   rotate_left
                   ·
                    simp only [Act.put, List.setIfInBounds_toArray, List.set_cons_zero, List.set_cons_succ, i64_w, i32_w]
                    rfl
                   refine pure_ (i := 13) (N := some 4) (v := ?_) (a' := ?_) #[true, true, true, true, true, true, true, true, true, true, true, true, true, true] rfl rfl (any_of HT_.out (by kernel_rfl)) (fun _ _ _ h => h) (Or.inl ⟨by rfl, ?_⟩) ?_ ?_
                   rotate_left
                   ·
                    intro w'
                    go_simp
                    with_reducible rfl
                   rotate_left
                   ·
                    simp only [Act.put, List.setIfInBounds_toArray, List.set_cons_zero, List.set_cons_succ, i64_w, i32_w]
                    rfl
                   refine done_ (done_of HT_.out (by kernel_rfl)) ?_
                   try go_wp2
                   have n0_ := Aside0.mk (blk_drew BK131.out)
                   have n1_ := Aside0.mk (below_drew1 HB.out)
                   clear BK131
                   clear HB
                   have BK131 := n0_
                   have HB := n1_
                   clear n0_ n1_
                   refine start_ (n := 25) (S := fun w' => w'.cell? ⟨gb131, 0, none⟩ = some (.int .i64 a0_0) ∧ w'.cell? ⟨gb131, 1, none⟩ = some (.int .i64 a0_1) ∧ w'.cell? ⟨gb131, 2, none⟩ = some (.int .i64 a0_2) ∧ w'.cell? ⟨gb131, 3, none⟩ = some (.int .i64 a0_3) ∧ w'.cell? ⟨gb131, 4, none⟩ = some (.int .i64 a0_4) ∧ w'.cell? ⟨gb131, 5, none⟩ = some (.int .i64 a0_5) ∧ w'.cell? ⟨gb131, 6, none⟩ = some (.int .i64 a0_6)) (ds := []) #[false, false, false, false, false, false, false, false, false, false, false, false, false, false, false, false, false, false, false, false, false, false, false, false, false] (by kernel_rfl) rfl rfl ⟨(blk_cell BK131.out 0).trans rfl, (blk_cell BK131.out 1).trans rfl, (blk_cell BK131.out 2).trans rfl, (blk_cell BK131.out 3).trans rfl, (blk_cell BK131.out 4).trans rfl, (blk_cell BK131.out 5).trans rfl, (blk_cell BK131.out 6).trans rfl⟩ (fun hHeld => ?_); refine with_tabW date_Print.tab7 date_Print.bits7 (fun HT_ HW_ => ?_)
                   generalize w39.drew = w40 at BK131 HB hHeld ⊢
                   refine pure_ (i := 0) (N := some 30) (v := ?_) (a' := ?_) #[true, false, false, false, false, false, false, false, false, false, false, false, false, false, false, false, false, false, false, false, false, false, false, false, false] rfl rfl (any_of HT_.out (by kernel_rfl)) (fun _ _ _ h => h) (Or.inl ⟨by rfl, ?_⟩) ?_ ?_
                   rotate_left
                   ·
                    intro w'
                    go_simp
                    with_reducible rfl
                   rotate_left
                   ·
                    simp only [Act.put, List.setIfInBounds_toArray, List.set_cons_zero, List.set_cons_succ, i64_w, i32_w]
                    rfl
                   refine pure_ (i := 1) (N := some 31) (v := ?_) (a' := ?_) #[true, true, false, false, false, false, false, false, false, false, false, false, false, false, false, false, false, false, false, false, false, false, false, false, false] rfl rfl (any_of HT_.out (by kernel_rfl)) (fun _ _ _ h => h) (Or.inl ⟨by rfl, ?_⟩) ?_ ?_
                   rotate_left
                   ·
                    intro w'
                    go_simp
                    with_reducible rfl
                   rotate_left
                   ·
                    simp only [Act.put, List.setIfInBounds_toArray, List.set_cons_zero, List.set_cons_succ, i64_w, i32_w]
                    rfl
                   refine pure_ (i := 2) (N := some 32) (v := ?_) (a' := ?_) #[true, true, true, false, false, false, false, false, false, false, false, false, false, false, false, false, false, false, false, false, false, false, false, false, false] rfl rfl (any_of HT_.out (by kernel_rfl)) (fun _ _ _ h => h) (Or.inl ⟨by rfl, ?_⟩) ?_ ?_
                   rotate_left
                   ·
                    intro w'
                    go_simp
                    with_reducible rfl
                   rotate_left
                   ·
                    simp only [Act.put, List.setIfInBounds_toArray, List.set_cons_zero, List.set_cons_succ, i64_w, i32_w]
                    rfl
                   refine pure_ (i := 6) (N := some 36) (v := ?_) (a' := ?_) #[true, true, true, false, false, false, true, false, false, false, false, false, false, false, false, false, false, false, false, false, false, false, false, false, false] rfl rfl (any_of HT_.out (by kernel_rfl)) (fun _ _ _ h => h) (Or.inl ⟨by rfl, ?_⟩) ?_ ?_
                   rotate_left
                   ·
                    intro w'
                    go_simp
                    with_reducible rfl
                   rotate_left
                   ·
                    simp only [Act.put, List.setIfInBounds_toArray, List.set_cons_zero, List.set_cons_succ, i64_w, i32_w]
                    rfl
                   refine pure_ (i := 12) (N := some 42) (v := ?_) (a' := ?_) #[true, true, true, false, false, false, true, false, false, false, false, false, true, false, false, false, false, false, false, false, false, false, false, false, false] rfl rfl (any_of HT_.out (by kernel_rfl)) (fun _ _ _ h => h) (Or.inl ⟨by rfl, ?_⟩) ?_ ?_
                   rotate_left
                   ·
                    intro w'
                    go_simp
                    with_reducible rfl
                   rotate_left
                   ·
                    simp only [Act.put, List.setIfInBounds_toArray, List.set_cons_zero, List.set_cons_succ, i64_w, i32_w]
                    rfl
                   refine pure_ (i := 17) (N := some 47) (v := ?_) (a' := ?_) #[true, true, true, false, false, false, true, false, false, false, false, false, true, false, false, false, false, true, false, false, false, false, false, false, false] rfl rfl (any_of HT_.out (by kernel_rfl)) (fun _ _ _ h => h) (Or.inl ⟨by rfl, ?_⟩) ?_ ?_
                   rotate_left
                   ·
                    intro w'
                    go_simp
                    with_reducible rfl
                   rotate_left
                   ·
                    simp only [Act.put, List.setIfInBounds_toArray, List.set_cons_zero, List.set_cons_succ, i64_w, i32_w]
                    rfl
                   refine pure_ (i := 20) (N := some 50) (v := ?_) (a' := ?_) #[true, true, true, false, false, false, true, false, false, false, false, false, true, false, false, false, false, true, false, false, true, false, false, false, false] rfl rfl (any_of HT_.out (by kernel_rfl)) (fun _ _ _ h => h) (Or.inl ⟨by rfl, ?_⟩) ?_ ?_
                   rotate_left
                   ·
                    intro w'
                    go_simp
                    with_reducible rfl
                   rotate_left
                   ·
                    simp only [Act.put, List.setIfInBounds_toArray, List.set_cons_zero, List.set_cons_succ, i64_w, i32_w]
                    rfl
                   refine take_ (i := 3) (N := some 33) (v := ?_) (a' := ?_) #[true, true, true, true, false, false, true, false, false, false, false, false, true, false, false, false, false, true, false, false, true, false, false, false, false] rfl rfl (take_ofW HT_.out HW_.out (by kernel_rfl)) (fun _ _ _ h => h) (Or.inl ⟨by rfl, ?_⟩) hHeld ?_ ?_
                   rotate_left
                   ·
                    rintro w' ⟨s0, s1, s2, s3, s4, s5, s6⟩
                    go_simp
                    with_reducible rfl
                   rotate_left
                   ·
                    simp only [Act.put, List.setIfInBounds_toArray, List.set_cons_zero, List.set_cons_succ, i64_w, i32_w]
                    rfl
                   refine pure_ (i := 4) (N := some 34) (v := ?_) (a' := ?_) #[true, true, true, true, true, false, true, false, false, false, false, false, true, false, false, false, false, true, false, false, true, false, false, false, false] rfl rfl (any_of HT_.out (by kernel_rfl)) (fun _ _ _ h => h) (Or.inl ⟨by rfl, ?_⟩) ?_ ?_
                   rotate_left
                   ·
                    intro w'
                    go_simp
                    with_reducible rfl
                   rotate_left
                   ·
                    simp only [Act.put, List.setIfInBounds_toArray, List.set_cons_zero, List.set_cons_succ, i64_w, i32_w]
                    rfl
                   refine pure_ (i := 5) (N := some 35) (v := ?_) (a' := ?_) #[true, true, true, true, true, true, true, false, false, false, false, false, true, false, false, false, false, true, false, false, true, false, false, false, false] rfl rfl (any_of HT_.out (by kernel_rfl)) (fun _ _ _ h => h) (Or.inl ⟨by rfl, ?_⟩) ?_ ?_
                   rotate_left
                   ·
                    intro w'
                    go_simp
                    with_reducible rfl
                   rotate_left
                   ·
                    simp only [Act.put, List.setIfInBounds_toArray, List.set_cons_zero, List.set_cons_succ, i64_w, i32_w]
                    rfl
                   refine take_ (i := 7) (N := some 37) (v := ?_) (a' := ?_) #[true, true, true, true, true, true, true, true, false, false, false, false, true, false, false, false, false, true, false, false, true, false, false, false, false] rfl rfl (take_ofW HT_.out HW_.out (by kernel_rfl)) (fun _ _ _ h => h) (Or.inl ⟨by rfl, ?_⟩) hHeld ?_ ?_
                   rotate_left
                   ·
                    rintro w' ⟨s0, s1, s2, s3, s4, s5, s6⟩
                    go_simp
                    with_reducible rfl
                   rotate_left
                   ·
                    simp only [Act.put, List.setIfInBounds_toArray, List.set_cons_zero, List.set_cons_succ, i64_w, i32_w]
                    rfl
                   refine pure_ (i := 8) (N := some 38) (v := ?_) (a' := ?_) #[true, true, true, true, true, true, true, true, true, false, false, false, true, false, false, false, false, true, false, false, true, false, false, false, false] rfl rfl (any_of HT_.out (by kernel_rfl)) (fun _ _ _ h => h) (Or.inl ⟨by rfl, ?_⟩) ?_ ?_
                   rotate_left
                   ·
                    intro w'
                    go_simp
                    with_reducible rfl
                   rotate_left
                   ·
                    simp only [Act.put, List.setIfInBounds_toArray, List.set_cons_zero, List.set_cons_succ, i64_w, i32_w]
                    rfl
                   refine pure_ (i := 9) (N := some 39) (v := ?_) (a' := ?_) #[true, true, true, true, true, true, true, true, true, true, false, false, true, false, false, false, false, true, false, false, true, false, false, false, false] rfl rfl (any_of HT_.out (by kernel_rfl)) (fun _ _ _ h => h) (Or.inl ⟨by rfl, ?_⟩) ?_ ?_
                   rotate_left
                   ·
                    intro w'
                    go_simp
                    with_reducible rfl
                   rotate_left
                   ·
                    simp only [Act.put, List.setIfInBounds_toArray, List.set_cons_zero, List.set_cons_succ, i64_w, i32_w]
                    rfl
                   refine pure_ (i := 10) (N := some 40) (v := ?_) (a' := ?_) #[true, true, true, true, true, true, true, true, true, true, true, false, true, false, false, false, false, true, false, false, true, false, false, false, false] rfl rfl (any_of HT_.out (by kernel_rfl)) (fun _ _ _ h => h) (Or.inl ⟨by rfl, ?_⟩) ?_ ?_
                   rotate_left
                   ·
                    intro w'
                    go_simp
                    with_reducible rfl
                   rotate_left
                   ·
                    simp only [Act.put, List.setIfInBounds_toArray, List.set_cons_zero, List.set_cons_succ, i64_w, i32_w]
                    rfl
                   refine pure_ (i := 11) (N := some 41) (v := ?_) (a' := ?_) #[true, true, true, true, true, true, true, true, true, true, true, true, true, false, false, false, false, true, false, false, true, false, false, false, false] rfl rfl (any_of HT_.out (by kernel_rfl)) (fun _ _ _ h => h) (Or.inl ⟨by rfl, ?_⟩) ?_ ?_
                   rotate_left
                   ·
                    intro w'
                    go_simp
                    with_reducible rfl
                   rotate_left
                   ·
                    simp only [Act.put, List.setIfInBounds_toArray, List.set_cons_zero, List.set_cons_succ, i64_w, i32_w]
                    rfl
                   refine take_ (i := 13) (N := some 43) (v := ?_) (a' := ?_) #[true, true, true, true, true, true, true, true, true, true, true, true, true, true, false, false, false, true, false, false, true, false, false, false, false] rfl rfl (take_ofW HT_.out HW_.out (by kernel_rfl)) (fun _ _ _ h => h) (Or.inl ⟨by rfl, ?_⟩) hHeld ?_ ?_
                   rotate_left
                   ·
                    rintro w' ⟨s0, s1, s2, s3, s4, s5, s6⟩
                    go_simp
                    with_reducible rfl
                   rotate_left
                   ·
                    simp only [Act.put, List.setIfInBounds_toArray, List.set_cons_zero, List.set_cons_succ, i64_w, i32_w]
                    rfl
                   refine take_ (i := 21) (N := some 51) (v := ?_) (a' := ?_) #[true, true, true, true, true, true, true, true, true, true, true, true, true, true, false, false, false, true, false, false, true, true, false, false, false] rfl rfl (take_ofW HT_.out HW_.out (by kernel_rfl)) (fun _ _ _ h => h) (Or.inl ⟨by rfl, ?_⟩) hHeld ?_ ?_
                   rotate_left
                   ·
                    rintro w' ⟨s0, s1, s2, s3, s4, s5, s6⟩
                    go_simp
                    with_reducible rfl
                   rotate_left
                   ·
                    simp only [Act.put, List.setIfInBounds_toArray, List.set_cons_zero, List.set_cons_succ, i64_w, i32_w]
                    rfl
                   refine one_ (i := 14) (N := some 44) #[true, true, true, true, true, true, true, true, true, true, true, true, true, true, true, false, false, true, false, false, true, true, false, false, false] rfl rfl (one_of HT_.out (by kernel_rfl)) (by decide) (fun K hK => ?_)
                   refine goes_ Tryd.func41 (by kernel_rfl) rfl #[.int .i64 a0_0, .int .i64 4] (by rfl) rfl rfl (by (try simp only [List.map_toArray, List.map_cons, List.map_nil]); first | done | rfl | (simp only [List.length_drop, List.length_take]; rfl)) ?_
                   with_reducible refine (date_digits.calls kj4 a0_0 4 t137 _ A29.out).mono ?_
                   rintro e w41 ⟨rfl, hb⟩
                   refine ⟨_, rfl, ?_⟩
                   have n0_ := Aside0.mk (blk_below (g := gb131) (o := .cells #[.int .i64 a0_0, .int .i64 a0_1, .int .i64 a0_2, .int .i64 a0_3, .int .i64 a0_4, .int .i64 a0_5, .int .i64 a0_6] 24 (0, 0)) (by (with_reducible repeat (first | refine blk_drewN ?_ _ | refine blk_drew ?_ | refine blk_alloc ?_ _)); exact BK131.out) hb)
                   have n1_ := Aside0.mk (below_step (by repeat (first | (with_reducible first | exact HB.out | apply below_alloc | apply pw_below_drewN | apply below_drew1 | refine below_set ?_ GE131.out) | exact HB.out)) hb)
                   clear BK131
                   clear HB
                   have BK131 := n0_
                   have HB := n1_
                   clear n0_ n1_
                   (try clear hb)
                   (try clear hb2)
                   (try clear hk)
                   (try clear hi)
                   refine hK.out _ _ ⟨(blk_cell BK131.out 0).trans rfl, (blk_cell BK131.out 1).trans rfl, (blk_cell BK131.out 2).trans rfl, (blk_cell BK131.out 3).trans rfl, (blk_cell BK131.out 4).trans rfl, (blk_cell BK131.out 5).trans rfl, (blk_cell BK131.out 6).trans rfl⟩ (fun hHeld => ?_)
                   clear hK K
                   refine norm_ (a' := ?_) ?_ ?_
                   rotate_left
                   ·
                    show Act.put _ (some 44) _ = _
                    simp only [Act.put, List.setIfInBounds_toArray, List.set_cons_zero, List.set_cons_succ, i64_w, i32_w]
                    rfl
                   refine pure_ (i := 15) (N := some 45) (v := ?_) (a' := ?_) #[true, true, true, true, true, true, true, true, true, true, true, true, true, true, true, true, false, true, false, false, true, true, false, false, false] rfl rfl (any_of HT_.out (by kernel_rfl)) (fun _ _ _ h => h) (Or.inl ⟨by rfl, ?_⟩) ?_ ?_
                   rotate_left
                   ·
                    intro w'
                    go_simp
                    with_reducible rfl
                   rotate_left
                   ·
                    simp only [Act.put, List.setIfInBounds_toArray, List.set_cons_zero, List.set_cons_succ, i64_w, i32_w]
                    rfl
                   refine pure_ (i := 16) (N := some 46) (v := ?_) (a' := ?_) #[true, true, true, true, true, true, true, true, true, true, true, true, true, true, true, true, true, true, false, false, true, true, false, false, false] rfl rfl (any_of HT_.out (by kernel_rfl)) (fun _ _ _ h => h) (Or.inl ⟨by rfl, ?_⟩) ?_ ?_
                   rotate_left
                   ·
                    intro w'
                    go_simp
                    with_reducible rfl
                   rotate_left
                   ·
                    simp only [Act.put, List.setIfInBounds_toArray, List.set_cons_zero, List.set_cons_succ, i64_w, i32_w]
                    rfl
                   refine pure_ (i := 18) (N := some 48) (v := ?_) (a' := ?_) #[true, true, true, true, true, true, true, true, true, true, true, true, true, true, true, true, true, true, true, false, true, true, false, false, false] rfl rfl (any_of HT_.out (by kernel_rfl)) (fun _ _ _ h => h) (Or.inl ⟨by rfl, ?_⟩) ?_ ?_
                   rotate_left
                   ·
                    intro w'
                    go_simp
                    with_reducible rfl
                   rotate_left
                   ·
                    simp only [Act.put, List.setIfInBounds_toArray, List.set_cons_zero, List.set_cons_succ, i64_w, i32_w]
                    rfl
                   refine pure_ (i := 19) (N := some 49) (v := ?_) (a' := ?_) #[true, true, true, true, true, true, true, true, true, true, true, true, true, true, true, true, true, true, true, true, true, true, false, false, false] rfl rfl (any_of HT_.out (by kernel_rfl)) (fun _ _ _ h => h) (Or.inl ⟨by rfl, ?_⟩) ?_ ?_
                   rotate_left
                   ·
                    intro w'
                    go_simp
                    with_reducible rfl
                   rotate_left
                   ·
                    simp only [Act.put, List.setIfInBounds_toArray, List.set_cons_zero, List.set_cons_succ, i64_w, i32_w]
                    rfl
                   refine one_ (i := 22) (N := some 52) #[true, true, true, true, true, true, true, true, true, true, true, true, true, true, true, true, true, true, true, true, true, true, true, false, false] rfl rfl (one_of HT_.out (by kernel_rfl)) (by decide) (fun K hK => ?_)
                   refine goes_ Tryd.func42 (by kernel_rfl) rfl #[.int .i64 a0_6] (by rfl) rfl rfl (by (try simp only [List.map_toArray, List.map_cons, List.map_nil]); first | done | rfl | (simp only [List.length_drop, List.length_take]; rfl)) ?_
                   with_reducible refine (date_zone.calls kj4 a0_6 t138 _ A34.out).mono ?_
                   rintro e w42 ⟨rfl, hb⟩
                   refine ⟨_, rfl, ?_⟩
                   have n0_ := Aside0.mk (blk_below (g := gb131) (o := .cells #[.int .i64 a0_0, .int .i64 a0_1, .int .i64 a0_2, .int .i64 a0_3, .int .i64 a0_4, .int .i64 a0_5, .int .i64 a0_6] 24 (0, 0)) (by (with_reducible repeat (first | refine blk_drewN ?_ _ | refine blk_drew ?_ | refine blk_alloc ?_ _)); exact BK131.out) hb)
                   have n1_ := Aside0.mk (below_step (by repeat (first | (with_reducible first | exact HB.out | apply below_alloc | apply pw_below_drewN | apply below_drew1 | refine below_set ?_ GE131.out) | exact HB.out)) hb)
                   clear BK131
                   clear HB
                   have BK131 := n0_
                   have HB := n1_
                   clear n0_ n1_
                   (try clear hb)
                   (try clear hb2)
                   (try clear hk)
                   (try clear hi)
                   refine hK.out _ _ ⟨(blk_cell BK131.out 0).trans rfl, (blk_cell BK131.out 1).trans rfl, (blk_cell BK131.out 2).trans rfl, (blk_cell BK131.out 3).trans rfl, (blk_cell BK131.out 4).trans rfl, (blk_cell BK131.out 5).trans rfl, (blk_cell BK131.out 6).trans rfl⟩ (fun hHeld => ?_)
                   clear hK K
                   refine norm_ (a' := ?_) ?_ ?_
                   rotate_left
                   ·
                    show Act.put _ (some 52) _ = _
                    simp only [Act.put, List.setIfInBounds_toArray, List.set_cons_zero, List.set_cons_succ, i64_w, i32_w]
                    rfl
                   refine pure_ (i := 23) (N := some 53) (v := ?_) (a' := ?_) #[true, true, true, true, true, true, true, true, true, true, true, true, true, true, true, true, true, true, true, true, true, true, true, true, false] rfl rfl (any_of HT_.out (by kernel_rfl)) (fun _ _ _ h => h) (Or.inl ⟨by rfl, ?_⟩) ?_ ?_
                   rotate_left
                   ·
                    intro w'
                    go_simp
                    with_reducible rfl
                   rotate_left
                   ·
                    simp only [Act.put, List.setIfInBounds_toArray, List.set_cons_zero, List.set_cons_succ, i64_w, i32_w]
                    rfl
                   refine pure_ (i := 24) (N := some 2) (v := ?_) (a' := ?_) #[true, true, true, true, true, true, true, true, true, true, true, true, true, true, true, true, true, true, true, true, true, true, true, true, true] rfl rfl (any_of HT_.out (by kernel_rfl)) (fun _ _ _ h => h) (Or.inl ⟨by rfl, ?_⟩) ?_ ?_
                   rotate_left
                   ·
                    intro w'
                    go_simp
                    with_reducible rfl
                   rotate_left
                   ·
                    simp only [Act.put, List.setIfInBounds_toArray, List.set_cons_zero, List.set_cons_succ, i64_w, i32_w]
                    rfl
                   refine done_ (done_of HT_.out (by kernel_rfl)) ?_
                   try go_wp2
                   go_ret
                   exact ⟨by first | rfl | (simp [errW_none, errW_some] <;> rfl) | (simp only [← hji23]; first | rfl | (simp [errW_none, errW_some] <;> rfl)) | (simp [*, errW_none, errW_some] <;> rfl), by repeat (first | (with_reducible first | exact HB.out | apply below_alloc | apply pw_below_drewN | apply below_drew1 | refine below_set ?_ GE131.out) | exact HB.out)⟩
                  ·
                   rw [if_neg c35] at H
                   exact absurd H (by simp)
                 ·
                  rw [if_neg c33] at H
                  exact absurd H (by simp)
                ·
                 rw [if_neg c32] at H
                 exact absurd H (by simp)
               ·
                rw [if_neg c31] at H
                exact absurd H (by simp)
              ·
               rw [if_neg c30] at H
               exact absurd H (by simp)
             ·
              rw [if_neg c28] at H
              exact absurd H (by simp)
            ·
             rw [if_neg c27] at H
             exact absurd H (by simp)
           ·
            rw [if_neg c26] at H
            exact absurd H (by simp)
          ·
           rw [if_neg c25] at H
           exact absurd H (by simp)
         ·
          rw [if_neg c24] at H
          exact absurd H (by simp)
        ·
         rw [if_neg c22] at H
         exact absurd H (by simp)
       ·
        rw [if_neg c21] at H
        exact absurd H (by simp)
      ·
       rw [if_neg c19] at H
       exact absurd H (by simp)
     ·
      rw [if_neg c18] at H
      exact absurd H (by simp)
    ·
     rw [if_neg c16] at H
     exact absurd H (by simp)
 ·
  replace c3 := Bool.eq_false_iff.mpr c3
  subst c3
  have H1 : (some (⟨#[]⟩ : ByteArray)) = some r := by rw [if_neg (show ¬ (false = true) by decide)] at H; exact H
  clear H
  have H := H1
  clear H1
  obtain rfl := Option.some.inj H
  go_enter Tryd.func12, Tryd.ntmps12
  go_wp2_with (first | ((with_reducible refine gate_dst (N := 1) rfl ?_); refine box_event ?hg (N := 1) ?hd (cs := #[.int .i64 a0_0, .int .i64 a0_1, .int .i64 a0_2, .int .i64 a0_3, .int .i64 a0_4, .int .i64 a0_5, .int .i64 a0_6]) (t := 24) ?hr ?_; (case hd => rfl); (case hg => rfl); (case hr => first | (go_simp; done) | (go_simp; rfl)); intro gb131 hg w43 hbox hb; have n0_ := Aside0.mk (below_step (by repeat (first | (with_reducible first | exact HB.out | apply below_alloc | apply pw_below_drewN | apply below_drew1) | exact HB.out)) hb); have n1_ := Aside0.mk (hbox); have n2_ := Aside0.mk ((by rw [hg]; exact (below_size (by repeat (first | (with_reducible first | exact HB.out | apply below_alloc | apply pw_below_drewN | apply below_drew1) | exact HB.out))) : w.heap.size ≤ gb131)); have n3_ := Aside0.mk ((by rw [hg]; exact (below_size (by repeat (first | (with_reducible first | exact HB.out | apply below_alloc | apply pw_below_drewN | apply below_drew1) | exact HB.out))) : w.heap.size ≤ gb131)); clear HB; have HB := n0_; have BK131 := n1_; have GW131 := n2_; have GE131 := n3_; clear n0_ n1_ n2_ n3_; clear hb hbox hg; have hcz44_0 : w43.cell? ⟨gb131, 0, none⟩ = some (.int .i64 a0_0) := (blk_cell BK131.out 0).trans rfl; have hcz44_1 : w43.cell? ⟨gb131, 1, none⟩ = some (.int .i64 a0_1) := (blk_cell BK131.out 1).trans rfl; have hcz44_2 : w43.cell? ⟨gb131, 2, none⟩ = some (.int .i64 a0_2) := (blk_cell BK131.out 2).trans rfl; have hcz44_3 : w43.cell? ⟨gb131, 3, none⟩ = some (.int .i64 a0_3) := (blk_cell BK131.out 3).trans rfl; have hcz44_4 : w43.cell? ⟨gb131, 4, none⟩ = some (.int .i64 a0_4) := (blk_cell BK131.out 4).trans rfl; have hcz44_5 : w43.cell? ⟨gb131, 5, none⟩ = some (.int .i64 a0_5) := (blk_cell BK131.out 5).trans rfl; have hcz44_6 : w43.cell? ⟨gb131, 6, none⟩ = some (.int .i64 a0_6) := (blk_cell BK131.out 6).trans rfl; have hfz44_0 := blk_frozen BK131.out 0; have hfz44_1 := blk_frozen BK131.out 1; have hfz44_2 := blk_frozen BK131.out 2; have hfz44_3 := blk_frozen BK131.out 3; have hfz44_4 := blk_frozen BK131.out 4; have hfz44_5 := blk_frozen BK131.out 5; have hfz44_6 := blk_frozen BK131.out 6) | ((with_reducible refine gate_callee (f := 13) rfl ?_); refine goesL_ (some 6) rfl rfl Tryd.func13 (by kernel_rfl) rfl #[.agg #[.int .i64 a0_0, .int .i64 a0_1, .int .i64 a0_2, .int .i64 a0_3, .int .i64 a0_4, .int .i64 a0_5, .int .i64 a0_6]] rfl (by (try simp only [List.map_toArray, List.map_cons, List.map_nil]); first | done | rfl | (simp only [List.length_drop, List.length_take]; rfl)) ?_; (with_reducible refine (date_Right.calls k a0_0 a0_1 a0_2 a0_3 a0_4 a0_5 a0_6 false _ A2.out).mono ?_); rintro e w45 ⟨rfl, hb⟩; refine ⟨_, rfl, ?_⟩; have n0_ := Aside0.mk (blk_below (g := gb131) (o := .cells #[.int .i64 a0_0, .int .i64 a0_1, .int .i64 a0_2, .int .i64 a0_3, .int .i64 a0_4, .int .i64 a0_5, .int .i64 a0_6] 24 (0, 0)) (by (with_reducible repeat (first | refine blk_drewN ?_ _ | refine blk_drew ?_ | refine blk_alloc ?_ _)); exact BK131.out) hb); have n1_ := Aside0.mk (below_step (by repeat (first | (with_reducible first | exact HB.out | apply below_alloc | apply pw_below_drewN | apply below_drew1 | refine below_set ?_ GE131.out) | exact HB.out)) hb); clear BK131; clear HB; have BK131 := n0_; have HB := n1_; clear n0_ n1_; (try clear hb); (try clear hb2); (try clear hk); (try clear hi)))
  go_ret
  exact ⟨by first | rfl | (simp [errW_none, errW_some] <;> rfl) | (simp [*, errW_none, errW_some] <;> rfl), by repeat (first | (with_reducible first | exact HB.out | apply below_alloc | apply pw_below_drewN | apply below_drew1 | refine below_set ?_ GE131.out) | exact HB.out)⟩
end Go.Proofs.YtooknjpdflokkaaDoor.PP
