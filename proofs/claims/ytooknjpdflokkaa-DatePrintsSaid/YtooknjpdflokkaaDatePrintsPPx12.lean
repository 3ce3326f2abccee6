/- YtooknjpdflokkaaPPx12, as far as DatePrints needs it (prune.py). -/
import Derived.Test.YtooknjpdflokkaaDatePrintsPPx0
import Derived.Test.YtooknjpdflokkaaDatePrintsPPx10
import Derived.Test.YtooknjpdflokkaaDatePrintsPPx11
namespace Go.Proofs.Ytooknjpdflokkaa.PP
open Go.RowKit Go.Proofs.YtooknjpdflokkaaW.PrintWords Go.Proofs.YtooknjpdflokkaaW.PrintLast Go.Proofs.YtooknjpdflokkaaW.PrintMore
attribute [local go_sem] max2_int min2_int max_two min_two max_three min_three max_four min_four   -- for this text's walks alone
open Go.Proofs.Ytooknjpdflokkaa.My
set_option linter.unusedVariables false
set_option linter.unusedSimpArgs false
mutual
def haversackref09_Print.j0 : Nat → ByteArray → Int → Int → Int → Int → Int → Int → Int → Option (ByteArray)
  | 0, _, _, _, _, _, _, _, _ => none
  | k + 1, x3, x191000, x191001, x191002, x191003, x191004, x191005, x191006 => if x191006 < 0 then (haversackref09_Print.j1 k x3 (wrap64 (-x191006)) (⟨#[45]⟩ : ByteArray) x191000 x191001 x191002 x191003 x191004 x191005 x191006) else (haversackref09_Print.j1 k x3 x191006 (⟨#[43]⟩ : ByteArray) x191000 x191001 x191002 x191003 x191004 x191005 x191006)
def haversackref09_Print.j1 : Nat → ByteArray → Int → ByteArray → Int → Int → Int → Int → Int → Int → Int → Option (ByteArray)
  | 0, _, _, _, _, _, _, _, _, _, _ => none
  | k + 1, x3, x4, x5, x191000, x191001, x191002, x191003, x191004, x191005, x191006 => if x3.size + 1 ≤ 9223372036854775807 then ((haversackref09_Months.f x191001).bind fun t193 => (if x3.size + 1 + t193.size ≤ 9223372036854775807 then (if x3.size + 1 + t193.size + 1 ≤ 9223372036854775807 then ((haversackref09_two.f (wrap64 (Int.tdiv x191000 100))).bind fun t194 => (if x3.size + 1 + t193.size + 1 + t194.size ≤ 9223372036854775807 then ((haversackref09_two.f x191000).bind fun t195 => (if x3.size + 1 + t193.size + 1 + t194.size + t195.size ≤ 9223372036854775807 then (if x3.size + 1 + t193.size + 1 + t194.size + t195.size + 1 ≤ 9223372036854775807 then ((haversackref09_two.f x191003).bind fun t196 => (if x3.size + 1 + t193.size + 1 + t194.size + t195.size + 1 + t196.size ≤ 9223372036854775807 then (if x3.size + 1 + t193.size + 1 + t194.size + t195.size + 1 + t196.size + 1 ≤ 9223372036854775807 then ((haversackref09_two.f x191004).bind fun t197 => (if x3.size + 1 + t193.size + 1 + t194.size + t195.size + 1 + t196.size + 1 + t197.size ≤ 9223372036854775807 then (if x3.size + 1 + t193.size + 1 + t194.size + t195.size + 1 + t196.size + 1 + t197.size + 1 ≤ 9223372036854775807 then ((haversackref09_two.f x191005).bind fun t198 => (if x3.size + 1 + t193.size + 1 + t194.size + t195.size + 1 + t196.size + 1 + t197.size + 1 + t198.size ≤ 9223372036854775807 then (if x3.size + 1 + t193.size + 1 + t194.size + t195.size + 1 + t196.size + 1 + t197.size + 1 + t198.size + 1 ≤ 9223372036854775807 then (if x3.size + 1 + t193.size + 1 + t194.size + t195.size + 1 + t196.size + 1 + t197.size + 1 + t198.size + 1 + x5.size ≤ 9223372036854775807 then ((haversackref09_two.f (wrap64 (Int.tdiv x4 60))).bind fun t199 => (if x3.size + 1 + t193.size + 1 + t194.size + t195.size + 1 + t196.size + 1 + t197.size + 1 + t198.size + 1 + x5.size + t199.size ≤ 9223372036854775807 then ((haversackref09_two.f (Int.tmod x4 60)).bind fun t200 => (if x3.size + 1 + t193.size + 1 + t194.size + t195.size + 1 + t196.size + 1 + t197.size + 1 + t198.size + 1 + x5.size + t199.size + t200.size ≤ 9223372036854775807 then (some (((((((((((((((x3 ++ (⟨#[45]⟩ : ByteArray)) ++ t193) ++ (⟨#[45]⟩ : ByteArray)) ++ t194) ++ t195) ++ (⟨#[32]⟩ : ByteArray)) ++ t196) ++ (⟨#[58]⟩ : ByteArray)) ++ t197) ++ (⟨#[58]⟩ : ByteArray)) ++ t198) ++ (⟨#[32]⟩ : ByteArray)) ++ x5) ++ t199) ++ t200)) else (none))) else (none))) else (none)) else (none)) else (none))) else (none)) else (none))) else (none)) else (none))) else (none)) else (none))) else (none))) else (none)) else (none))) else (none)
end
def haversackref09_Print.f (k : Nat) (a0_0 : Int) (a0_1 : Int) (a0_2 : Int) (a0_3 : Int) (a0_4 : Int) (a0_5 : Int) (a0_6 : Int) : Option (ByteArray) := (haversackref09_Right.f a0_0 a0_1 a0_2 a0_3 a0_4 a0_5 a0_6).bind fun t191 => (if t191 = true then ((haversackref09_two.f a0_2).bind fun t192 => (if a0_2 < 10 then (if 1 ≤ (t192.size : Int) then (if 1 + (t192.size - 1) ≤ 9223372036854775807 then (haversackref09_Print.j0 k ((⟨#[32]⟩ : ByteArray) ++ (t192.extract 1 t192.size)) a0_0 a0_1 a0_2 a0_3 a0_4 a0_5 a0_6) else (none)) else (none)) else (haversackref09_Print.j0 k t192 a0_0 a0_1 a0_2 a0_3 a0_4 a0_5 a0_6))) else (some (⟨#[]⟩ : ByteArray)))
def haversackref09_Print.T11 : Bool × List (List Nat × List Nat) := (true, [([], []), ([0], [0]), ([], []), ([2], [2]), ([3], [3]), ([1, 4], [1, 4]), ([5], [5]), ([], []), ([7], [7]), ([8], [8]), ([9, 4], [9]), ([6, 10], [6, 10]), ([], []), ([12], [12]), ([13, 10], [13]), ([11, 14], [11, 14]), ([15], [15]), ([], []), ([17], [17]), ([18, 14], [18]), ([16, 19], [16, 19]), ([20], [20]), ([], []), ([22], [22]), ([23, 19], [23]), ([21, 24], [21, 24]), ([25], [25]), ([], []), ([27], [27]), ([28, 24], [28]), ([26, 29], [26, 29]), ([30], [30]), ([], []), ([31, 32], [31, 32]), ([], []), ([34], [34]), ([35, 29], [35]), ([33, 36], [33, 36]), ([], []), ([38], [38]), ([39, 36], [39]), ([37, 40], [37, 40]), ([41, 40, 0, 1, 2, 3, 4, 5, 6, 7, 8, 9, 10, 11, 12, 13, 14, 15, 16, 17, 18, 19, 20, 21, 22, 23, 24, 25, 26, 27, 28, 29, 30, 31, 32, 33, 34, 35, 36, 37, 38, 39, 40, 41], [41])])
def haversackref09_Print.B11 : List Nat := [0, 1, 0, 4, 12, 31, 63, 0, 128, 384, 924, 2047, 0, 4096, 14236, 32767, 65535, 0, 131072, 423836, 1048575, 2097151, 0, 4194304, 13531036, 33554431, 67108863, 0, 134217728, 432961436, 1073741823, 2147483647, 0, 8589934591, 0, 17179869184, 52509439900, 137438953471, 0, 274877906944, 945862637468, 2199023255551, 4398046511103]
theorem haversackref09_Print.tab11 : rtab .any (opsOf Try.f12 11) = haversackref09_Print.T11 := by kernel_rfl
theorem haversackref09_Print.bits11 : waitsOk haversackref09_Print.T11.2 haversackref09_Print.B11 = true := by kernel_rfl
set_option maxHeartbeats 8000000 in
set_option maxRecDepth 100000 in
theorem haversackref09_Print.calls (k : Nat) (a0_0 : Int) (a0_1 : Int) (a0_2 : Int) (a0_3 : Int) (a0_4 : Int) (a0_5 : Int) (a0_6 : Int) (r : ByteArray) (w : World) (h : haversackref09_Print.f k a0_0 a0_1 a0_2 a0_3 a0_4 a0_5 a0_6 = some r) :
    Calls Try.prog 12 #[.agg #[.int .i64 a0_0, .int .i64 a0_1, .int .i64 a0_2, .int .i64 a0_3, .int .i64 a0_4, .int .i64 a0_5, .int .i64 a0_6]] w fun e w' => e = .returned (.string r) ∧ Below w.heap.size w w' := by
  have hu23 := Try.underlying23
  have HB := Aside0.mk (Below.refl w.heap.size w)
  have H : ((haversackref09_Right.f a0_0 a0_1 a0_2 a0_3 a0_4 a0_5 a0_6).bind fun t191 => (if t191 = true then ((haversackref09_two.f a0_2).bind fun t192 => (if a0_2 < 10 then (if 1 ≤ (t192.size : Int) then (if 1 + (t192.size - 1) ≤ 9223372036854775807 then (haversackref09_Print.j0 k ((⟨#[32]⟩ : ByteArray) ++ (t192.extract 1 t192.size)) a0_0 a0_1 a0_2 a0_3 a0_4 a0_5 a0_6) else (none)) else (none)) else (haversackref09_Print.j0 k t192 a0_0 a0_1 a0_2 a0_3 a0_4 a0_5 a0_6))) else (some (⟨#[]⟩ : ByteArray)))) = some r := h
  clear h
  replace H := Option.bind_eq_some_iff.mp H
  obtain ⟨t191, A20, H⟩ := H
  replace H : (if t191 = true then ((haversackref09_two.f a0_2).bind fun t192 => (if a0_2 < 10 then (if 1 ≤ (t192.size : Int) then (if 1 + (t192.size - 1) ≤ 9223372036854775807 then (haversackref09_Print.j0 k ((⟨#[32]⟩ : ByteArray) ++ (t192.extract 1 t192.size)) a0_0 a0_1 a0_2 a0_3 a0_4 a0_5 a0_6) else (none)) else (none)) else (haversackref09_Print.j0 k t192 a0_0 a0_1 a0_2 a0_3 a0_4 a0_5 a0_6))) else (some (⟨#[]⟩ : ByteArray))) = some r := H
  have A2 := Aside0.mk A20
  clear A20
  by_cases c3 : t191 = true
  · subst c3
    have H1 : ((haversackref09_two.f a0_2).bind fun t192 => (if a0_2 < 10 then (if 1 ≤ (t192.size : Int) then (if 1 + (t192.size - 1) ≤ 9223372036854775807 then (haversackref09_Print.j0 k ((⟨#[32]⟩ : ByteArray) ++ (t192.extract 1 t192.size)) a0_0 a0_1 a0_2 a0_3 a0_4 a0_5 a0_6) else (none)) else (none)) else (haversackref09_Print.j0 k t192 a0_0 a0_1 a0_2 a0_3 a0_4 a0_5 a0_6))) = some r := by rw [if_pos rfl] at H; exact H
    clear H
    have H := H1
    clear H1
    replace H := Option.bind_eq_some_iff.mp H
    obtain ⟨t192, A40, H⟩ := H
    replace H : (if a0_2 < 10 then (if 1 ≤ (t192.size : Int) then (if 1 + (t192.size - 1) ≤ 9223372036854775807 then (haversackref09_Print.j0 k ((⟨#[32]⟩ : ByteArray) ++ (t192.extract 1 t192.size)) a0_0 a0_1 a0_2 a0_3 a0_4 a0_5 a0_6) else (none)) else (none)) else (haversackref09_Print.j0 k t192 a0_0 a0_1 a0_2 a0_3 a0_4 a0_5 a0_6)) = some r := H
    have A4 := Aside0.mk A40
    clear A40
    have HC5 := Aside0.mk H
    clear H
    go_enter Try.func12, Try.ntmps12
    go_upto_if 14 with (first | ((with_reducible refine gate_dst (N := 1) rfl ?_); refine box_event ?hg (N := 1) ?hd (cs := #[.int .i64 a0_0, .int .i64 a0_1, .int .i64 a0_2, .int .i64 a0_3, .int .i64 a0_4, .int .i64 a0_5, .int .i64 a0_6]) (t := 23) ?hr ?_; (case hd => rfl); (case hg => rfl); (case hr => first | (go_simp; done) | (go_simp; rfl)); intro gb190 hg w6 hbox hb; have n0_ := Aside0.mk (below_step (by repeat (first | (with_reducible first | exact HB.out | apply below_alloc | apply pw_below_drewN | apply below_drew1) | exact HB.out)) hb); have n1_ := Aside0.mk (hbox); have n2_ := Aside0.mk ((by rw [hg]; exact (below_size (by repeat (first | (with_reducible first | exact HB.out | apply below_alloc | apply pw_below_drewN | apply below_drew1) | exact HB.out))) : w.heap.size ≤ gb190)); have n3_ := Aside0.mk ((by rw [hg]; exact (below_size (by repeat (first | (with_reducible first | exact HB.out | apply below_alloc | apply pw_below_drewN | apply below_drew1) | exact HB.out))) : w.heap.size ≤ gb190)); clear HB; have HB := n0_; have BK190 := n1_; have GW190 := n2_; have GE190 := n3_; clear n0_ n1_ n2_ n3_; clear hb hbox hg; have hcz7_0 : w6.cell? ⟨gb190, 0, none⟩ = some (.int .i64 a0_0) := (blk_cell BK190.out 0).trans rfl; have hcz7_1 : w6.cell? ⟨gb190, 1, none⟩ = some (.int .i64 a0_1) := (blk_cell BK190.out 1).trans rfl; have hcz7_2 : w6.cell? ⟨gb190, 2, none⟩ = some (.int .i64 a0_2) := (blk_cell BK190.out 2).trans rfl; have hcz7_3 : w6.cell? ⟨gb190, 3, none⟩ = some (.int .i64 a0_3) := (blk_cell BK190.out 3).trans rfl; have hcz7_4 : w6.cell? ⟨gb190, 4, none⟩ = some (.int .i64 a0_4) := (blk_cell BK190.out 4).trans rfl; have hcz7_5 : w6.cell? ⟨gb190, 5, none⟩ = some (.int .i64 a0_5) := (blk_cell BK190.out 5).trans rfl; have hcz7_6 : w6.cell? ⟨gb190, 6, none⟩ = some (.int .i64 a0_6) := (blk_cell BK190.out 6).trans rfl; have hfz7_0 := blk_frozen BK190.out 0; have hfz7_1 := blk_frozen BK190.out 1; have hfz7_2 := blk_frozen BK190.out 2; have hfz7_3 := blk_frozen BK190.out 3; have hfz7_4 := blk_frozen BK190.out 4; have hfz7_5 := blk_frozen BK190.out 5; have hfz7_6 := blk_frozen BK190.out 6) | ((with_reducible refine gate_callee (f := 22) rfl ?_); refine goesL_ (some 7) rfl rfl Try.func22 (by kernel_rfl) rfl #[.agg #[.int .i64 a0_0, .int .i64 a0_1, .int .i64 a0_2, .int .i64 a0_3, .int .i64 a0_4, .int .i64 a0_5, .int .i64 a0_6]] rfl (by (try simp only [List.map_toArray, List.map_cons, List.map_nil]); first | done | rfl | (simp only [List.length_drop, List.length_take]; rfl)) ?_; (with_reducible refine (haversackref09_Right.calls a0_0 a0_1 a0_2 a0_3 a0_4 a0_5 a0_6 true _ A2.out).mono ?_); rintro e w8 ⟨rfl, hb⟩; refine ⟨_, rfl, ?_⟩; have n0_ := Aside0.mk (blk_below (g := gb190) (o := .cells #[.int .i64 a0_0, .int .i64 a0_1, .int .i64 a0_2, .int .i64 a0_3, .int .i64 a0_4, .int .i64 a0_5, .int .i64 a0_6] 23 (0, 0)) (by (with_reducible repeat (first | refine blk_drewN ?_ _ | refine blk_drew ?_ | refine blk_alloc ?_ _)); exact BK190.out) hb); have n1_ := Aside0.mk (below_step (by repeat (first | (with_reducible first | exact HB.out | apply below_alloc | apply pw_below_drewN | apply below_drew1 | refine below_set ?_ GE190.out) | exact HB.out)) hb); clear BK190; clear HB; have BK190 := n0_; have HB := n1_; clear n0_ n1_; (try clear hb); (try clear hb2); (try clear hk); (try clear hi); have hcz9_0 : w8.cell? ⟨gb190, 0, none⟩ = some (.int .i64 a0_0) := (blk_cell BK190.out 0).trans rfl; have hcz9_1 : w8.cell? ⟨gb190, 1, none⟩ = some (.int .i64 a0_1) := (blk_cell BK190.out 1).trans rfl; have hcz9_2 : w8.cell? ⟨gb190, 2, none⟩ = some (.int .i64 a0_2) := (blk_cell BK190.out 2).trans rfl; have hcz9_3 : w8.cell? ⟨gb190, 3, none⟩ = some (.int .i64 a0_3) := (blk_cell BK190.out 3).trans rfl; have hcz9_4 : w8.cell? ⟨gb190, 4, none⟩ = some (.int .i64 a0_4) := (blk_cell BK190.out 4).trans rfl; have hcz9_5 : w8.cell? ⟨gb190, 5, none⟩ = some (.int .i64 a0_5) := (blk_cell BK190.out 5).trans rfl; have hcz9_6 : w8.cell? ⟨gb190, 6, none⟩ = some (.int .i64 a0_6) := (blk_cell BK190.out 6).trans rfl; have hfz9_0 := blk_frozen BK190.out 0; have hfz9_1 := blk_frozen BK190.out 1; have hfz9_2 := blk_frozen BK190.out 2; have hfz9_3 := blk_frozen BK190.out 3; have hfz9_4 := blk_frozen BK190.out 4; have hfz9_5 := blk_frozen BK190.out 5; have hfz9_6 := blk_frozen BK190.out 6) | ((with_reducible refine gate_callee (f := 39) rfl ?_); refine goesL_ (some 11) rfl rfl Try.func39 (by kernel_rfl) rfl #[.int .i64 a0_2] rfl (by (try simp only [List.map_toArray, List.map_cons, List.map_nil]); first | done | rfl | (simp only [List.length_drop, List.length_take]; rfl)) ?_; (with_reducible refine (haversackref09_two.calls a0_2 t192 _ A4.out).mono ?_); rintro e w10 ⟨rfl, hb⟩; refine ⟨_, rfl, ?_⟩; have n0_ := Aside0.mk (blk_below (g := gb190) (o := .cells #[.int .i64 a0_0, .int .i64 a0_1, .int .i64 a0_2, .int .i64 a0_3, .int .i64 a0_4, .int .i64 a0_5, .int .i64 a0_6] 23 (0, 0)) (by (with_reducible repeat (first | refine blk_drewN ?_ _ | refine blk_drew ?_ | refine blk_alloc ?_ _)); exact BK190.out) hb); have n1_ := Aside0.mk (below_step (by repeat (first | (with_reducible first | exact HB.out | apply below_alloc | apply pw_below_drewN | apply below_drew1 | refine below_set ?_ GE190.out) | exact HB.out)) hb); clear BK190; clear HB; have BK190 := n0_; have HB := n1_; clear n0_ n1_; (try clear hb); (try clear hb2); (try clear hk); (try clear hi); have hcz11_0 : w10.cell? ⟨gb190, 0, none⟩ = some (.int .i64 a0_0) := (blk_cell BK190.out 0).trans rfl; have hcz11_1 : w10.cell? ⟨gb190, 1, none⟩ = some (.int .i64 a0_1) := (blk_cell BK190.out 1).trans rfl; have hcz11_2 : w10.cell? ⟨gb190, 2, none⟩ = some (.int .i64 a0_2) := (blk_cell BK190.out 2).trans rfl; have hcz11_3 : w10.cell? ⟨gb190, 3, none⟩ = some (.int .i64 a0_3) := (blk_cell BK190.out 3).trans rfl; have hcz11_4 : w10.cell? ⟨gb190, 4, none⟩ = some (.int .i64 a0_4) := (blk_cell BK190.out 4).trans rfl; have hcz11_5 : w10.cell? ⟨gb190, 5, none⟩ = some (.int .i64 a0_5) := (blk_cell BK190.out 5).trans rfl; have hcz11_6 : w10.cell? ⟨gb190, 6, none⟩ = some (.int .i64 a0_6) := (blk_cell BK190.out 6).trans rfl; have hfz11_0 := blk_frozen BK190.out 0; have hfz11_1 := blk_frozen BK190.out 1; have hfz11_2 := blk_frozen BK190.out 2; have hfz11_3 := blk_frozen BK190.out 3; have hfz11_4 := blk_frozen BK190.out 4; have hfz11_5 := blk_frozen BK190.out 5; have hfz11_6 := blk_frozen BK190.out 6))
    (try simp only [Act.put, List.setIfInBounds_toArray, List.set_cons_zero, List.set_cons_succ])
    go_cut [3] (fun v3 wc => ∃ (kq : Nat) (x3_4 : ByteArray), v3 = .string x3_4 ∧ Aside0 (haversackref09_Print.j0 kq x3_4 a0_0 a0_1 a0_2 a0_3 a0_4 a0_5 a0_6 = some r) ∧ Aside0 (kq ≤ k) ∧ Aside0 (wc.heap[gb190]? = some (.cells #[.int .i64 a0_0, .int .i64 a0_1, .int .i64 a0_2, .int .i64 a0_3, .int .i64 a0_4, .int .i64 a0_5, .int .i64 a0_6] 23 (0, 0))) ∧ Aside0 (Below w.heap.size w wc))
    case first =>
      have H := HC5.out
      clear HC5
      by_cases c12 : a0_2 < 10
      · rw [if_pos c12] at H
        have c12b0 : decide (a0_2 < 10) = true := decide_eq_true c12
        clear c12
        (first | rw [c12b0] | (simp only [i64_w, i32_w]; rw [c12b0]) | skip)
        by_cases c13 : 1 ≤ (t192.size : Int)
        · rw [if_pos c13] at H
          have c13b0 := eq_true c13
          have c13b1 : decide (1 ≤ (t192.size : Int)) = true := decide_eq_true c13
          clear c13
          by_cases c14 : 1 + (t192.size - 1) ≤ 9223372036854775807
          · rw [if_pos c14] at H
            have c14b0 := eq_true c14
            have c14b1 : decide (1 + (t192.size - 1) ≤ 9223372036854775807) = true := decide_eq_true c14
            try have c14b2 : (9223372036854775807 < 1 + (t192.size - 1)) = False := eq_false (Nat.not_lt.2 c14)
            have H' := Aside0.mk H
            clear H
            go_wp2
            go_meet
            case rel => exact ⟨_, ((⟨#[32]⟩ : ByteArray) ++ (t192.extract 1 t192.size)), (by first | with_reducible rfl | (simp only [ByteArray.size_append, ByteArray.size_extract, Nat.min_self, Nat.sub_zero, Go.Proofs.Ytooknjpdflokkaa.My.lit_size, List.size_toArray, List.length_cons, List.length_nil, Nat.reduceAdd, Nat.zero_add]; done) | rfl | (simp; done) | (simp [*]; done)), H', ⟨by first | omega | exact Nat.le_refl _⟩, ⟨by (with_reducible repeat (first | refine blk_drewN ?_ _ | refine blk_drew ?_ | refine blk_alloc ?_ _)); exact BK190.out⟩, ⟨by repeat (first | (with_reducible first | exact HB.out | apply below_alloc | apply pw_below_drewN | apply below_drew1 | refine below_set ?_ GE190.out) | exact HB.out)⟩⟩
          · rw [if_neg c14] at H
            exact absurd H (by simp)
        · rw [if_neg c13] at H
          exact absurd H (by simp)
      · rw [if_neg c12] at H
        have c12b0 : decide (a0_2 < 10) = false := decide_eq_false c12
        clear c12
        (first | rw [c12b0] | (simp only [i64_w, i32_w]; rw [c12b0]) | skip)
        have H' := Aside0.mk H
        clear H
        go_wp2
        go_meet
        case rel => exact ⟨_, (t192), (by first | with_reducible rfl | (simp only [ByteArray.size_append, ByteArray.size_extract, Nat.min_self, Nat.sub_zero, Go.Proofs.Ytooknjpdflokkaa.My.lit_size, List.size_toArray, List.length_cons, List.length_nil, Nat.reduceAdd, Nat.zero_add]; done) | rfl | (simp; done) | (simp [*]; done)), H', ⟨by first | omega | exact Nat.le_refl _⟩, ⟨by (with_reducible repeat (first | refine blk_drewN ?_ _ | refine blk_drew ?_ | refine blk_alloc ?_ _)); exact BK190.out⟩, ⟨by repeat (first | (with_reducible first | exact HB.out | apply below_alloc | apply pw_below_drewN | apply below_drew1 | refine below_set ?_ GE190.out) | exact HB.out)⟩⟩
    case rest =>
      clear HC5
      try clear c1
      try clear c2
      try clear p2
      try clear c3
      try clear c12
      try clear c12b0
      try clear c13
      try clear c13b0
      try clear c13b1
      try clear c14
      try clear c14b0
      try clear c14b1
      try clear c14b2
      try clear hcz11_0
      try clear hcz11_1
      try clear hcz11_2
      try clear hcz11_3
      try clear hcz11_4
      try clear hcz11_5
      try clear hcz11_6
      try clear hcz7_0
      try clear hcz7_1
      try clear hcz7_2
      try clear hcz7_3
      try clear hcz7_4
      try clear hcz7_5
      try clear hcz7_6
      try clear hcz9_0
      try clear hcz9_1
      try clear hcz9_2
      try clear hcz9_3
      try clear hcz9_4
      try clear hcz9_5
      try clear hcz9_6
      try clear hfz11_0
      try clear hfz11_1
      try clear hfz11_2
      try clear hfz11_3
      try clear hfz11_4
      try clear hfz11_5
      try clear hfz11_6
      try clear hfz7_0
      try clear hfz7_1
      try clear hfz7_2
      try clear hfz7_3
      try clear hfz7_4
      try clear hfz7_5
      try clear hfz7_6
      try clear hfz9_0
      try clear hfz9_1
      try clear hfz9_2
      try clear hfz9_3
      try clear hfz9_4
      try clear hfz9_5
      try clear hfz9_6
      obtain ⟨kq, x3_4, rfl, HA, HJ4, BK190, HB⟩ := hcut
      cases kq with
      | zero => exact absurd HA.out (by simp [haversackref09_Print.j0])
      | succ kj4 =>
        have H := HA.out
        clear HA
        simp only [haversackref09_Print.j0] at H
        have HC15 := Aside0.mk H
        clear H
        have hcz16_0 : wc.cell? ⟨gb190, 0, none⟩ = some (.int .i64 a0_0) := (blk_cell BK190.out 0).trans rfl
        have hcz16_1 : wc.cell? ⟨gb190, 1, none⟩ = some (.int .i64 a0_1) := (blk_cell BK190.out 1).trans rfl
        have hcz16_2 : wc.cell? ⟨gb190, 2, none⟩ = some (.int .i64 a0_2) := (blk_cell BK190.out 2).trans rfl
        have hcz16_3 : wc.cell? ⟨gb190, 3, none⟩ = some (.int .i64 a0_3) := (blk_cell BK190.out 3).trans rfl
        have hcz16_4 : wc.cell? ⟨gb190, 4, none⟩ = some (.int .i64 a0_4) := (blk_cell BK190.out 4).trans rfl
        have hcz16_5 : wc.cell? ⟨gb190, 5, none⟩ = some (.int .i64 a0_5) := (blk_cell BK190.out 5).trans rfl
        have hcz16_6 : wc.cell? ⟨gb190, 6, none⟩ = some (.int .i64 a0_6) := (blk_cell BK190.out 6).trans rfl
        have hfz16_0 := blk_frozen BK190.out 0
        have hfz16_1 := blk_frozen BK190.out 1
        have hfz16_2 := blk_frozen BK190.out 2
        have hfz16_3 := blk_frozen BK190.out 3
        have hfz16_4 := blk_frozen BK190.out 4
        have hfz16_5 := blk_frozen BK190.out 5
        have hfz16_6 := blk_frozen BK190.out 6
        go_upto_if 21 with (fail)
        go_cut [4, 5] (fun v4 v5 wc => ∃ (kq : Nat) (x4_14 : Int) (x5_14 : ByteArray), v4 = .int .i64 x4_14 ∧ v5 = .string x5_14 ∧ Aside0 (haversackref09_Print.j1 kq x3_4 x4_14 x5_14 a0_0 a0_1 a0_2 a0_3 a0_4 a0_5 a0_6 = some r) ∧ Aside0 (kq ≤ kj4) ∧ Aside0 (wc.heap[gb190]? = some (.cells #[.int .i64 a0_0, .int .i64 a0_1, .int .i64 a0_2, .int .i64 a0_3, .int .i64 a0_4, .int .i64 a0_5, .int .i64 a0_6] 23 (0, 0))) ∧ Aside0 (Below w.heap.size w wc))
        case first =>
          have H := HC15.out
          clear HC15
          by_cases c17 : a0_6 < 0
          · rw [if_pos c17] at H
            have c17b0 : decide (a0_6 < 0) = true := decide_eq_true c17
            clear c17
            (first | rw [c17b0] | (simp only [i64_w, i32_w]; rw [c17b0]) | skip)
            have H' := Aside0.mk H
            clear H
            go_wp2
            go_meet
            case rel => exact ⟨_, (wrap64 (-a0_6)), ((⟨#[45]⟩ : ByteArray)), (by first | with_reducible rfl | (simp only [ByteArray.size_append, ByteArray.size_extract, Nat.min_self, Nat.sub_zero, Go.Proofs.Ytooknjpdflokkaa.My.lit_size, List.size_toArray, List.length_cons, List.length_nil, Nat.reduceAdd, Nat.zero_add]; done) | rfl | (simp; done) | (simp [*]; done)), (by first | with_reducible rfl | (simp only [ByteArray.size_append, ByteArray.size_extract, Nat.min_self, Nat.sub_zero, Go.Proofs.Ytooknjpdflokkaa.My.lit_size, List.size_toArray, List.length_cons, List.length_nil, Nat.reduceAdd, Nat.zero_add]; done) | rfl | (simp; done) | (simp [*]; done)), H', ⟨by have := HJ4.out; first | omega | exact Nat.le_refl _⟩, ⟨by (with_reducible repeat (first | refine blk_drewN ?_ _ | refine blk_drew ?_ | refine blk_alloc ?_ _)); exact BK190.out⟩, ⟨by repeat (first | (with_reducible first | exact HB.out | apply below_alloc | apply pw_below_drewN | apply below_drew1 | refine below_set ?_ GE190.out) | exact HB.out)⟩⟩
          · rw [if_neg c17] at H
            have c17b0 : decide (a0_6 < 0) = false := decide_eq_false c17
            clear c17
            (first | rw [c17b0] | (simp only [i64_w, i32_w]; rw [c17b0]) | skip)
            have H' := Aside0.mk H
            clear H
            go_wp2
            go_meet
            case rel => exact ⟨_, (a0_6), ((⟨#[43]⟩ : ByteArray)), (by first | with_reducible rfl | (simp only [ByteArray.size_append, ByteArray.size_extract, Nat.min_self, Nat.sub_zero, Go.Proofs.Ytooknjpdflokkaa.My.lit_size, List.size_toArray, List.length_cons, List.length_nil, Nat.reduceAdd, Nat.zero_add]; done) | rfl | (simp; done) | (simp [*]; done)), (by first | with_reducible rfl | (simp only [ByteArray.size_append, ByteArray.size_extract, Nat.min_self, Nat.sub_zero, Go.Proofs.Ytooknjpdflokkaa.My.lit_size, List.size_toArray, List.length_cons, List.length_nil, Nat.reduceAdd, Nat.zero_add]; done) | rfl | (simp; done) | (simp [*]; done)), H', ⟨by have := HJ4.out; first | omega | exact Nat.le_refl _⟩, ⟨by (with_reducible repeat (first | refine blk_drewN ?_ _ | refine blk_drew ?_ | refine blk_alloc ?_ _)); exact BK190.out⟩, ⟨by repeat (first | (with_reducible first | exact HB.out | apply below_alloc | apply pw_below_drewN | apply below_drew1 | refine below_set ?_ GE190.out) | exact HB.out)⟩⟩
        case rest =>
          clear HC15
          try clear c1
          try clear c2
          try clear p2
          try clear c3
          try clear p6
          try clear c12
          try clear c12b0
          try clear c13
          try clear c13b0
          try clear c13b1
          try clear c14
          try clear c14b0
          try clear c14b1
          try clear c14b2
          try clear c17
          try clear c17b0
          try clear hcz11_0
          try clear hcz11_1
          try clear hcz11_2
          try clear hcz11_3
          try clear hcz11_4
          try clear hcz11_5
          try clear hcz11_6
          try clear hcz16_0
          try clear hcz16_1
          try clear hcz16_2
          try clear hcz16_3
          try clear hcz16_4
          try clear hcz16_5
          try clear hcz16_6
          try clear hcz7_0
          try clear hcz7_1
          try clear hcz7_2
          try clear hcz7_3
          try clear hcz7_4
          try clear hcz7_5
          try clear hcz7_6
          try clear hcz9_0
          try clear hcz9_1
          try clear hcz9_2
          try clear hcz9_3
          try clear hcz9_4
          try clear hcz9_5
          try clear hcz9_6
          try clear hfz11_0
          try clear hfz11_1
          try clear hfz11_2
          try clear hfz11_3
          try clear hfz11_4
          try clear hfz11_5
          try clear hfz11_6
          try clear hfz16_0
          try clear hfz16_1
          try clear hfz16_2
          try clear hfz16_3
          try clear hfz16_4
          try clear hfz16_5
          try clear hfz16_6
          try clear hfz7_0
          try clear hfz7_1
          try clear hfz7_2
          try clear hfz7_3
          try clear hfz7_4
          try clear hfz7_5
          try clear hfz7_6
          try clear hfz9_0
          try clear hfz9_1
          try clear hfz9_2
          try clear hfz9_3
          try clear hfz9_4
          try clear hfz9_5
          try clear hfz9_6
          try clear p2
          obtain ⟨kq, x4_14, x5_14, rfl, rfl, HA, HJ14, BK190, HB⟩ := hcut
          cases kq with
          | zero => exact absurd HA.out (by simp [haversackref09_Print.j1])
          | succ kj14 =>
            have H := HA.out
            clear HA
            simp only [haversackref09_Print.j1] at H
            by_cases c18 : x3_4.size + 1 ≤ 9223372036854775807
            · rw [if_pos c18] at H
              have c18b0 := eq_true c18
              have c18b1 : decide (x3_4.size + 1 ≤ 9223372036854775807) = true := decide_eq_true c18
              try have c18b2 : (9223372036854775807 < x3_4.size + 1) = False := eq_false (Nat.not_lt.2 c18)
              replace H := Option.bind_eq_some_iff.mp H
              obtain ⟨t193, A190, H⟩ := H
              replace H : (if x3_4.size + 1 + t193.size ≤ 9223372036854775807 then (if x3_4.size + 1 + t193.size + 1 ≤ 9223372036854775807 then ((haversackref09_two.f (wrap64 (Int.tdiv a0_0 100))).bind fun t194 => (if x3_4.size + 1 + t193.size + 1 + t194.size ≤ 9223372036854775807 then ((haversackref09_two.f a0_0).bind fun t195 => (if x3_4.size + 1 + t193.size + 1 + t194.size + t195.size ≤ 9223372036854775807 then (if x3_4.size + 1 + t193.size + 1 + t194.size + t195.size + 1 ≤ 9223372036854775807 then ((haversackref09_two.f a0_3).bind fun t196 => (if x3_4.size + 1 + t193.size + 1 + t194.size + t195.size + 1 + t196.size ≤ 9223372036854775807 then (if x3_4.size + 1 + t193.size + 1 + t194.size + t195.size + 1 + t196.size + 1 ≤ 9223372036854775807 then ((haversackref09_two.f a0_4).bind fun t197 => (if x3_4.size + 1 + t193.size + 1 + t194.size + t195.size + 1 + t196.size + 1 + t197.size ≤ 9223372036854775807 then (if x3_4.size + 1 + t193.size + 1 + t194.size + t195.size + 1 + t196.size + 1 + t197.size + 1 ≤ 9223372036854775807 then ((haversackref09_two.f a0_5).bind fun t198 => (if x3_4.size + 1 + t193.size + 1 + t194.size + t195.size + 1 + t196.size + 1 + t197.size + 1 + t198.size ≤ 9223372036854775807 then (if x3_4.size + 1 + t193.size + 1 + t194.size + t195.size + 1 + t196.size + 1 + t197.size + 1 + t198.size + 1 ≤ 9223372036854775807 then (if x3_4.size + 1 + t193.size + 1 + t194.size + t195.size + 1 + t196.size + 1 + t197.size + 1 + t198.size + 1 + x5_14.size ≤ 9223372036854775807 then ((haversackref09_two.f (wrap64 (Int.tdiv x4_14 60))).bind fun t199 => (if x3_4.size + 1 + t193.size + 1 + t194.size + t195.size + 1 + t196.size + 1 + t197.size + 1 + t198.size + 1 + x5_14.size + t199.size ≤ 9223372036854775807 then ((haversackref09_two.f (Int.tmod x4_14 60)).bind fun t200 => (if x3_4.size + 1 + t193.size + 1 + t194.size + t195.size + 1 + t196.size + 1 + t197.size + 1 + t198.size + 1 + x5_14.size + t199.size + t200.size ≤ 9223372036854775807 then (some (((((((((((((((x3_4 ++ (⟨#[45]⟩ : ByteArray)) ++ t193) ++ (⟨#[45]⟩ : ByteArray)) ++ t194) ++ t195) ++ (⟨#[32]⟩ : ByteArray)) ++ t196) ++ (⟨#[58]⟩ : ByteArray)) ++ t197) ++ (⟨#[58]⟩ : ByteArray)) ++ t198) ++ (⟨#[32]⟩ : ByteArray)) ++ x5_14) ++ t199) ++ t200)) else (none))) else (none))) else (none)) else (none)) else (none))) else (none)) else (none))) else (none)) else (none))) else (none)) else (none))) else (none))) else (none)) else (none)) = some r := H
              have A19 := Aside0.mk A190
              clear A190
              by_cases c20 : x3_4.size + 1 + t193.size ≤ 9223372036854775807
              · rw [if_pos c20] at H
                have c20b0 := eq_true c20
                have c20b1 : decide (x3_4.size + 1 + t193.size ≤ 9223372036854775807) = true := decide_eq_true c20
                try have c20b2 : (9223372036854775807 < x3_4.size + 1 + t193.size) = False := eq_false (Nat.not_lt.2 c20)
                by_cases c21 : x3_4.size + 1 + t193.size + 1 ≤ 9223372036854775807
                · rw [if_pos c21] at H
                  have c21b0 := eq_true c21
                  have c21b1 : decide (x3_4.size + 1 + t193.size + 1 ≤ 9223372036854775807) = true := decide_eq_true c21
                  try have c21b2 : (9223372036854775807 < x3_4.size + 1 + t193.size + 1) = False := eq_false (Nat.not_lt.2 c21)
                  replace H := Option.bind_eq_some_iff.mp H
                  obtain ⟨t194, A220, H⟩ := H
                  replace H : (if x3_4.size + 1 + t193.size + 1 + t194.size ≤ 9223372036854775807 then ((haversackref09_two.f a0_0).bind fun t195 => (if x3_4.size + 1 + t193.size + 1 + t194.size + t195.size ≤ 9223372036854775807 then (if x3_4.size + 1 + t193.size + 1 + t194.size + t195.size + 1 ≤ 9223372036854775807 then ((haversackref09_two.f a0_3).bind fun t196 => (if x3_4.size + 1 + t193.size + 1 + t194.size + t195.size + 1 + t196.size ≤ 9223372036854775807 then (if x3_4.size + 1 + t193.size + 1 + t194.size + t195.size + 1 + t196.size + 1 ≤ 9223372036854775807 then ((haversackref09_two.f a0_4).bind fun t197 => (if x3_4.size + 1 + t193.size + 1 + t194.size + t195.size + 1 + t196.size + 1 + t197.size ≤ 9223372036854775807 then (if x3_4.size + 1 + t193.size + 1 + t194.size + t195.size + 1 + t196.size + 1 + t197.size + 1 ≤ 9223372036854775807 then ((haversackref09_two.f a0_5).bind fun t198 => (if x3_4.size + 1 + t193.size + 1 + t194.size + t195.size + 1 + t196.size + 1 + t197.size + 1 + t198.size ≤ 9223372036854775807 then (if x3_4.size + 1 + t193.size + 1 + t194.size + t195.size + 1 + t196.size + 1 + t197.size + 1 + t198.size + 1 ≤ 9223372036854775807 then (if x3_4.size + 1 + t193.size + 1 + t194.size + t195.size + 1 + t196.size + 1 + t197.size + 1 + t198.size + 1 + x5_14.size ≤ 9223372036854775807 then ((haversackref09_two.f (wrap64 (Int.tdiv x4_14 60))).bind fun t199 => (if x3_4.size + 1 + t193.size + 1 + t194.size + t195.size + 1 + t196.size + 1 + t197.size + 1 + t198.size + 1 + x5_14.size + t199.size ≤ 9223372036854775807 then ((haversackref09_two.f (Int.tmod x4_14 60)).bind fun t200 => (if x3_4.size + 1 + t193.size + 1 + t194.size + t195.size + 1 + t196.size + 1 + t197.size + 1 + t198.size + 1 + x5_14.size + t199.size + t200.size ≤ 9223372036854775807 then (some (((((((((((((((x3_4 ++ (⟨#[45]⟩ : ByteArray)) ++ t193) ++ (⟨#[45]⟩ : ByteArray)) ++ t194) ++ t195) ++ (⟨#[32]⟩ : ByteArray)) ++ t196) ++ (⟨#[58]⟩ : ByteArray)) ++ t197) ++ (⟨#[58]⟩ : ByteArray)) ++ t198) ++ (⟨#[32]⟩ : ByteArray)) ++ x5_14) ++ t199) ++ t200)) else (none))) else (none))) else (none)) else (none)) else (none))) else (none)) else (none))) else (none)) else (none))) else (none)) else (none))) else (none)) = some r := H
                  have A22 := Aside0.mk A220
                  clear A220
                  by_cases c23 : x3_4.size + 1 + t193.size + 1 + t194.size ≤ 9223372036854775807
                  · rw [if_pos c23] at H
                    have c23b0 := eq_true c23
                    have c23b1 : decide (x3_4.size + 1 + t193.size + 1 + t194.size ≤ 9223372036854775807) = true := decide_eq_true c23
                    try have c23b2 : (9223372036854775807 < x3_4.size + 1 + t193.size + 1 + t194.size) = False := eq_false (Nat.not_lt.2 c23)
                    replace H := Option.bind_eq_some_iff.mp H
                    obtain ⟨t195, A240, H⟩ := H
                    replace H : (if x3_4.size + 1 + t193.size + 1 + t194.size + t195.size ≤ 9223372036854775807 then (if x3_4.size + 1 + t193.size + 1 + t194.size + t195.size + 1 ≤ 9223372036854775807 then ((haversackref09_two.f a0_3).bind fun t196 => (if x3_4.size + 1 + t193.size + 1 + t194.size + t195.size + 1 + t196.size ≤ 9223372036854775807 then (if x3_4.size + 1 + t193.size + 1 + t194.size + t195.size + 1 + t196.size + 1 ≤ 9223372036854775807 then ((haversackref09_two.f a0_4).bind fun t197 => (if x3_4.size + 1 + t193.size + 1 + t194.size + t195.size + 1 + t196.size + 1 + t197.size ≤ 9223372036854775807 then (if x3_4.size + 1 + t193.size + 1 + t194.size + t195.size + 1 + t196.size + 1 + t197.size + 1 ≤ 9223372036854775807 then ((haversackref09_two.f a0_5).bind fun t198 => (if x3_4.size + 1 + t193.size + 1 + t194.size + t195.size + 1 + t196.size + 1 + t197.size + 1 + t198.size ≤ 9223372036854775807 then (if x3_4.size + 1 + t193.size + 1 + t194.size + t195.size + 1 + t196.size + 1 + t197.size + 1 + t198.size + 1 ≤ 9223372036854775807 then (if x3_4.size + 1 + t193.size + 1 + t194.size + t195.size + 1 + t196.size + 1 + t197.size + 1 + t198.size + 1 + x5_14.size ≤ 9223372036854775807 then ((haversackref09_two.f (wrap64 (Int.tdiv x4_14 60))).bind fun t199 => (if x3_4.size + 1 + t193.size + 1 + t194.size + t195.size + 1 + t196.size + 1 + t197.size + 1 + t198.size + 1 + x5_14.size + t199.size ≤ 9223372036854775807 then ((haversackref09_two.f (Int.tmod x4_14 60)).bind fun t200 => (if x3_4.size + 1 + t193.size + 1 + t194.size + t195.size + 1 + t196.size + 1 + t197.size + 1 + t198.size + 1 + x5_14.size + t199.size + t200.size ≤ 9223372036854775807 then (some (((((((((((((((x3_4 ++ (⟨#[45]⟩ : ByteArray)) ++ t193) ++ (⟨#[45]⟩ : ByteArray)) ++ t194) ++ t195) ++ (⟨#[32]⟩ : ByteArray)) ++ t196) ++ (⟨#[58]⟩ : ByteArray)) ++ t197) ++ (⟨#[58]⟩ : ByteArray)) ++ t198) ++ (⟨#[32]⟩ : ByteArray)) ++ x5_14) ++ t199) ++ t200)) else (none))) else (none))) else (none)) else (none)) else (none))) else (none)) else (none))) else (none)) else (none))) else (none)) else (none)) = some r := H
                    have A24 := Aside0.mk A240
                    clear A240
                    by_cases c25 : x3_4.size + 1 + t193.size + 1 + t194.size + t195.size ≤ 9223372036854775807
                    · rw [if_pos c25] at H
                      have c25b0 := eq_true c25
                      have c25b1 : decide (x3_4.size + 1 + t193.size + 1 + t194.size + t195.size ≤ 9223372036854775807) = true := decide_eq_true c25
                      try have c25b2 : (9223372036854775807 < x3_4.size + 1 + t193.size + 1 + t194.size + t195.size) = False := eq_false (Nat.not_lt.2 c25)
                      by_cases c26 : x3_4.size + 1 + t193.size + 1 + t194.size + t195.size + 1 ≤ 9223372036854775807
                      · rw [if_pos c26] at H
                        have c26b0 := eq_true c26
                        have c26b1 : decide (x3_4.size + 1 + t193.size + 1 + t194.size + t195.size + 1 ≤ 9223372036854775807) = true := decide_eq_true c26
                        try have c26b2 : (9223372036854775807 < x3_4.size + 1 + t193.size + 1 + t194.size + t195.size + 1) = False := eq_false (Nat.not_lt.2 c26)
                        replace H := Option.bind_eq_some_iff.mp H
                        obtain ⟨t196, A270, H⟩ := H
                        replace H : (if x3_4.size + 1 + t193.size + 1 + t194.size + t195.size + 1 + t196.size ≤ 9223372036854775807 then (if x3_4.size + 1 + t193.size + 1 + t194.size + t195.size + 1 + t196.size + 1 ≤ 9223372036854775807 then ((haversackref09_two.f a0_4).bind fun t197 => (if x3_4.size + 1 + t193.size + 1 + t194.size + t195.size + 1 + t196.size + 1 + t197.size ≤ 9223372036854775807 then (if x3_4.size + 1 + t193.size + 1 + t194.size + t195.size + 1 + t196.size + 1 + t197.size + 1 ≤ 9223372036854775807 then ((haversackref09_two.f a0_5).bind fun t198 => (if x3_4.size + 1 + t193.size + 1 + t194.size + t195.size + 1 + t196.size + 1 + t197.size + 1 + t198.size ≤ 9223372036854775807 then (if x3_4.size + 1 + t193.size + 1 + t194.size + t195.size + 1 + t196.size + 1 + t197.size + 1 + t198.size + 1 ≤ 9223372036854775807 then (if x3_4.size + 1 + t193.size + 1 + t194.size + t195.size + 1 + t196.size + 1 + t197.size + 1 + t198.size + 1 + x5_14.size ≤ 9223372036854775807 then ((haversackref09_two.f (wrap64 (Int.tdiv x4_14 60))).bind fun t199 => (if x3_4.size + 1 + t193.size + 1 + t194.size + t195.size + 1 + t196.size + 1 + t197.size + 1 + t198.size + 1 + x5_14.size + t199.size ≤ 9223372036854775807 then ((haversackref09_two.f (Int.tmod x4_14 60)).bind fun t200 => (if x3_4.size + 1 + t193.size + 1 + t194.size + t195.size + 1 + t196.size + 1 + t197.size + 1 + t198.size + 1 + x5_14.size + t199.size + t200.size ≤ 9223372036854775807 then (some (((((((((((((((x3_4 ++ (⟨#[45]⟩ : ByteArray)) ++ t193) ++ (⟨#[45]⟩ : ByteArray)) ++ t194) ++ t195) ++ (⟨#[32]⟩ : ByteArray)) ++ t196) ++ (⟨#[58]⟩ : ByteArray)) ++ t197) ++ (⟨#[58]⟩ : ByteArray)) ++ t198) ++ (⟨#[32]⟩ : ByteArray)) ++ x5_14) ++ t199) ++ t200)) else (none))) else (none))) else (none)) else (none)) else (none))) else (none)) else (none))) else (none)) else (none)) = some r := H
                        have A27 := Aside0.mk A270
                        clear A270
                        by_cases c28 : x3_4.size + 1 + t193.size + 1 + t194.size + t195.size + 1 + t196.size ≤ 9223372036854775807
                        · rw [if_pos c28] at H
                          have c28b0 := eq_true c28
                          have c28b1 : decide (x3_4.size + 1 + t193.size + 1 + t194.size + t195.size + 1 + t196.size ≤ 9223372036854775807) = true := decide_eq_true c28
                          try have c28b2 : (9223372036854775807 < x3_4.size + 1 + t193.size + 1 + t194.size + t195.size + 1 + t196.size) = False := eq_false (Nat.not_lt.2 c28)
                          by_cases c29 : x3_4.size + 1 + t193.size + 1 + t194.size + t195.size + 1 + t196.size + 1 ≤ 9223372036854775807
                          · rw [if_pos c29] at H
                            have c29b0 := eq_true c29
                            have c29b1 : decide (x3_4.size + 1 + t193.size + 1 + t194.size + t195.size + 1 + t196.size + 1 ≤ 9223372036854775807) = true := decide_eq_true c29
                            try have c29b2 : (9223372036854775807 < x3_4.size + 1 + t193.size + 1 + t194.size + t195.size + 1 + t196.size + 1) = False := eq_false (Nat.not_lt.2 c29)
                            replace H := Option.bind_eq_some_iff.mp H
                            obtain ⟨t197, A300, H⟩ := H
                            replace H : (if x3_4.size + 1 + t193.size + 1 + t194.size + t195.size + 1 + t196.size + 1 + t197.size ≤ 9223372036854775807 then (if x3_4.size + 1 + t193.size + 1 + t194.size + t195.size + 1 + t196.size + 1 + t197.size + 1 ≤ 9223372036854775807 then ((haversackref09_two.f a0_5).bind fun t198 => (if x3_4.size + 1 + t193.size + 1 + t194.size + t195.size + 1 + t196.size + 1 + t197.size + 1 + t198.size ≤ 9223372036854775807 then (if x3_4.size + 1 + t193.size + 1 + t194.size + t195.size + 1 + t196.size + 1 + t197.size + 1 + t198.size + 1 ≤ 9223372036854775807 then (if x3_4.size + 1 + t193.size + 1 + t194.size + t195.size + 1 + t196.size + 1 + t197.size + 1 + t198.size + 1 + x5_14.size ≤ 9223372036854775807 then ((haversackref09_two.f (wrap64 (Int.tdiv x4_14 60))).bind fun t199 => (if x3_4.size + 1 + t193.size + 1 + t194.size + t195.size + 1 + t196.size + 1 + t197.size + 1 + t198.size + 1 + x5_14.size + t199.size ≤ 9223372036854775807 then ((haversackref09_two.f (Int.tmod x4_14 60)).bind fun t200 => (if x3_4.size + 1 + t193.size + 1 + t194.size + t195.size + 1 + t196.size + 1 + t197.size + 1 + t198.size + 1 + x5_14.size + t199.size + t200.size ≤ 9223372036854775807 then (some (((((((((((((((x3_4 ++ (⟨#[45]⟩ : ByteArray)) ++ t193) ++ (⟨#[45]⟩ : ByteArray)) ++ t194) ++ t195) ++ (⟨#[32]⟩ : ByteArray)) ++ t196) ++ (⟨#[58]⟩ : ByteArray)) ++ t197) ++ (⟨#[58]⟩ : ByteArray)) ++ t198) ++ (⟨#[32]⟩ : ByteArray)) ++ x5_14) ++ t199) ++ t200)) else (none))) else (none))) else (none)) else (none)) else (none))) else (none)) else (none)) = some r := H
                            have A30 := Aside0.mk A300
                            clear A300
                            by_cases c31 : x3_4.size + 1 + t193.size + 1 + t194.size + t195.size + 1 + t196.size + 1 + t197.size ≤ 9223372036854775807
                            · rw [if_pos c31] at H
                              have c31b0 := eq_true c31
                              have c31b1 : decide (x3_4.size + 1 + t193.size + 1 + t194.size + t195.size + 1 + t196.size + 1 + t197.size ≤ 9223372036854775807) = true := decide_eq_true c31
                              try have c31b2 : (9223372036854775807 < x3_4.size + 1 + t193.size + 1 + t194.size + t195.size + 1 + t196.size + 1 + t197.size) = False := eq_false (Nat.not_lt.2 c31)
                              by_cases c32 : x3_4.size + 1 + t193.size + 1 + t194.size + t195.size + 1 + t196.size + 1 + t197.size + 1 ≤ 9223372036854775807
                              · rw [if_pos c32] at H
                                have c32b0 := eq_true c32
                                have c32b1 : decide (x3_4.size + 1 + t193.size + 1 + t194.size + t195.size + 1 + t196.size + 1 + t197.size + 1 ≤ 9223372036854775807) = true := decide_eq_true c32
                                try have c32b2 : (9223372036854775807 < x3_4.size + 1 + t193.size + 1 + t194.size + t195.size + 1 + t196.size + 1 + t197.size + 1) = False := eq_false (Nat.not_lt.2 c32)
                                replace H := Option.bind_eq_some_iff.mp H
                                obtain ⟨t198, A330, H⟩ := H
                                replace H : (if x3_4.size + 1 + t193.size + 1 + t194.size + t195.size + 1 + t196.size + 1 + t197.size + 1 + t198.size ≤ 9223372036854775807 then (if x3_4.size + 1 + t193.size + 1 + t194.size + t195.size + 1 + t196.size + 1 + t197.size + 1 + t198.size + 1 ≤ 9223372036854775807 then (if x3_4.size + 1 + t193.size + 1 + t194.size + t195.size + 1 + t196.size + 1 + t197.size + 1 + t198.size + 1 + x5_14.size ≤ 9223372036854775807 then ((haversackref09_two.f (wrap64 (Int.tdiv x4_14 60))).bind fun t199 => (if x3_4.size + 1 + t193.size + 1 + t194.size + t195.size + 1 + t196.size + 1 + t197.size + 1 + t198.size + 1 + x5_14.size + t199.size ≤ 9223372036854775807 then ((haversackref09_two.f (Int.tmod x4_14 60)).bind fun t200 => (if x3_4.size + 1 + t193.size + 1 + t194.size + t195.size + 1 + t196.size + 1 + t197.size + 1 + t198.size + 1 + x5_14.size + t199.size + t200.size ≤ 9223372036854775807 then (some (((((((((((((((x3_4 ++ (⟨#[45]⟩ : ByteArray)) ++ t193) ++ (⟨#[45]⟩ : ByteArray)) ++ t194) ++ t195) ++ (⟨#[32]⟩ : ByteArray)) ++ t196) ++ (⟨#[58]⟩ : ByteArray)) ++ t197) ++ (⟨#[58]⟩ : ByteArray)) ++ t198) ++ (⟨#[32]⟩ : ByteArray)) ++ x5_14) ++ t199) ++ t200)) else (none))) else (none))) else (none)) else (none)) else (none)) = some r := H
                                have A33 := Aside0.mk A330
                                clear A330
                                by_cases c34 : x3_4.size + 1 + t193.size + 1 + t194.size + t195.size + 1 + t196.size + 1 + t197.size + 1 + t198.size ≤ 9223372036854775807
                                · rw [if_pos c34] at H
                                  have c34b0 := eq_true c34
                                  have c34b1 : decide (x3_4.size + 1 + t193.size + 1 + t194.size + t195.size + 1 + t196.size + 1 + t197.size + 1 + t198.size ≤ 9223372036854775807) = true := decide_eq_true c34
                                  try have c34b2 : (9223372036854775807 < x3_4.size + 1 + t193.size + 1 + t194.size + t195.size + 1 + t196.size + 1 + t197.size + 1 + t198.size) = False := eq_false (Nat.not_lt.2 c34)
                                  by_cases c35 : x3_4.size + 1 + t193.size + 1 + t194.size + t195.size + 1 + t196.size + 1 + t197.size + 1 + t198.size + 1 ≤ 9223372036854775807
                                  · rw [if_pos c35] at H
                                    have c35b0 := eq_true c35
                                    have c35b1 : decide (x3_4.size + 1 + t193.size + 1 + t194.size + t195.size + 1 + t196.size + 1 + t197.size + 1 + t198.size + 1 ≤ 9223372036854775807) = true := decide_eq_true c35
                                    try have c35b2 : (9223372036854775807 < x3_4.size + 1 + t193.size + 1 + t194.size + t195.size + 1 + t196.size + 1 + t197.size + 1 + t198.size + 1) = False := eq_false (Nat.not_lt.2 c35)
                                    by_cases c36 : x3_4.size + 1 + t193.size + 1 + t194.size + t195.size + 1 + t196.size + 1 + t197.size + 1 + t198.size + 1 + x5_14.size ≤ 9223372036854775807
                                    · rw [if_pos c36] at H
                                      have c36b0 := eq_true c36
                                      have c36b1 : decide (x3_4.size + 1 + t193.size + 1 + t194.size + t195.size + 1 + t196.size + 1 + t197.size + 1 + t198.size + 1 + x5_14.size ≤ 9223372036854775807) = true := decide_eq_true c36
                                      try have c36b2 : (9223372036854775807 < x3_4.size + 1 + t193.size + 1 + t194.size + t195.size + 1 + t196.size + 1 + t197.size + 1 + t198.size + 1 + x5_14.size) = False := eq_false (Nat.not_lt.2 c36)
                                      replace H := Option.bind_eq_some_iff.mp H
                                      obtain ⟨t199, A370, H⟩ := H
                                      replace H : (if x3_4.size + 1 + t193.size + 1 + t194.size + t195.size + 1 + t196.size + 1 + t197.size + 1 + t198.size + 1 + x5_14.size + t199.size ≤ 9223372036854775807 then ((haversackref09_two.f (Int.tmod x4_14 60)).bind fun t200 => (if x3_4.size + 1 + t193.size + 1 + t194.size + t195.size + 1 + t196.size + 1 + t197.size + 1 + t198.size + 1 + x5_14.size + t199.size + t200.size ≤ 9223372036854775807 then (some (((((((((((((((x3_4 ++ (⟨#[45]⟩ : ByteArray)) ++ t193) ++ (⟨#[45]⟩ : ByteArray)) ++ t194) ++ t195) ++ (⟨#[32]⟩ : ByteArray)) ++ t196) ++ (⟨#[58]⟩ : ByteArray)) ++ t197) ++ (⟨#[58]⟩ : ByteArray)) ++ t198) ++ (⟨#[32]⟩ : ByteArray)) ++ x5_14) ++ t199) ++ t200)) else (none))) else (none)) = some r := H
                                      have A37 := Aside0.mk A370
                                      clear A370
                                      by_cases c38 : x3_4.size + 1 + t193.size + 1 + t194.size + t195.size + 1 + t196.size + 1 + t197.size + 1 + t198.size + 1 + x5_14.size + t199.size ≤ 9223372036854775807
                                      · rw [if_pos c38] at H
                                        have c38b0 := eq_true c38
                                        have c38b1 : decide (x3_4.size + 1 + t193.size + 1 + t194.size + t195.size + 1 + t196.size + 1 + t197.size + 1 + t198.size + 1 + x5_14.size + t199.size ≤ 9223372036854775807) = true := decide_eq_true c38
                                        try have c38b2 : (9223372036854775807 < x3_4.size + 1 + t193.size + 1 + t194.size + t195.size + 1 + t196.size + 1 + t197.size + 1 + t198.size + 1 + x5_14.size + t199.size) = False := eq_false (Nat.not_lt.2 c38)
                                        replace H := Option.bind_eq_some_iff.mp H
                                        obtain ⟨t200, A390, H⟩ := H
                                        replace H : (if x3_4.size + 1 + t193.size + 1 + t194.size + t195.size + 1 + t196.size + 1 + t197.size + 1 + t198.size + 1 + x5_14.size + t199.size + t200.size ≤ 9223372036854775807 then (some (((((((((((((((x3_4 ++ (⟨#[45]⟩ : ByteArray)) ++ t193) ++ (⟨#[45]⟩ : ByteArray)) ++ t194) ++ t195) ++ (⟨#[32]⟩ : ByteArray)) ++ t196) ++ (⟨#[58]⟩ : ByteArray)) ++ t197) ++ (⟨#[58]⟩ : ByteArray)) ++ t198) ++ (⟨#[32]⟩ : ByteArray)) ++ x5_14) ++ t199) ++ t200)) else (none)) = some r := H
                                        have A39 := Aside0.mk A390
                                        clear A390
                                        by_cases c40 : x3_4.size + 1 + t193.size + 1 + t194.size + t195.size + 1 + t196.size + 1 + t197.size + 1 + t198.size + 1 + x5_14.size + t199.size + t200.size ≤ 9223372036854775807
                                        · rw [if_pos c40] at H
                                          have c40b0 := eq_true c40
                                          have c40b1 : decide (x3_4.size + 1 + t193.size + 1 + t194.size + t195.size + 1 + t196.size + 1 + t197.size + 1 + t198.size + 1 + x5_14.size + t199.size + t200.size ≤ 9223372036854775807) = true := decide_eq_true c40
                                          try have c40b2 : (9223372036854775807 < x3_4.size + 1 + t193.size + 1 + t194.size + t195.size + 1 + t196.size + 1 + t197.size + 1 + t198.size + 1 + x5_14.size + t199.size + t200.size) = False := eq_false (Nat.not_lt.2 c40)
                                          obtain rfl := Option.some.inj H
                                          try go_wp2
                                          have n0_ := Aside0.mk (blk_drew BK190.out)
                                          have n1_ := Aside0.mk (below_drew1 HB.out)
                                          clear BK190
                                          clear HB
                                          have BK190 := n0_
                                          have HB := n1_
                                          clear n0_ n1_
                                          refine start_ (n := 43) (S := fun w' => w'.cell? ⟨gb190, 0, none⟩ = some (.int .i64 a0_0) ∧ w'.cell? ⟨gb190, 1, none⟩ = some (.int .i64 a0_1) ∧ w'.cell? ⟨gb190, 2, none⟩ = some (.int .i64 a0_2) ∧ w'.cell? ⟨gb190, 3, none⟩ = some (.int .i64 a0_3) ∧ w'.cell? ⟨gb190, 4, none⟩ = some (.int .i64 a0_4) ∧ w'.cell? ⟨gb190, 5, none⟩ = some (.int .i64 a0_5) ∧ w'.cell? ⟨gb190, 6, none⟩ = some (.int .i64 a0_6)) (ds := []) #[false, false, false, false, false, false, false, false, false, false, false, false, false, false, false, false, false, false, false, false, false, false, false, false, false, false, false, false, false, false, false, false, false, false, false, false, false, false, false, false, false, false, false] (by kernel_rfl) rfl rfl ⟨(blk_cell BK190.out 0).trans rfl, (blk_cell BK190.out 1).trans rfl, (blk_cell BK190.out 2).trans rfl, (blk_cell BK190.out 3).trans rfl, (blk_cell BK190.out 4).trans rfl, (blk_cell BK190.out 5).trans rfl, (blk_cell BK190.out 6).trans rfl⟩ (fun hHeld => ?_); refine with_tabW haversackref09_Print.tab11 haversackref09_Print.bits11 (fun HT_ HW_ => ?_)
                                          generalize wc.drew = w41 at BK190 HB hHeld ⊢
                                          refine pure_ (i := 0) (N := some 24) (v := ?_) (a' := ?_) #[true, false, false, false, false, false, false, false, false, false, false, false, false, false, false, false, false, false, false, false, false, false, false, false, false, false, false, false, false, false, false, false, false, false, false, false, false, false, false, false, false, false, false] rfl rfl (any_of HT_.out (by kernel_rfl)) (fun _ _ _ h => h) (Or.inl ⟨by rfl, ?_⟩) ?_ ?_
                                          rotate_left
                                          · intro w'
                                            go_simp
                                            with_reducible rfl
                                          rotate_left
                                          · simp only [Act.put, List.setIfInBounds_toArray, List.set_cons_zero, List.set_cons_succ, i64_w, i32_w]
                                            rfl
                                          refine pure_ (i := 1) (N := some 25) (v := ?_) (a' := ?_) #[true, true, false, false, false, false, false, false, false, false, false, false, false, false, false, false, false, false, false, false, false, false, false, false, false, false, false, false, false, false, false, false, false, false, false, false, false, false, false, false, false, false, false] rfl rfl (any_of HT_.out (by kernel_rfl)) (fun _ _ _ h => h) (Or.inl ⟨by rfl, ?_⟩) ?_ ?_
                                          rotate_left
                                          · intro w'
                                            go_simp
                                            with_reducible rfl
                                          rotate_left
                                          · simp only [Act.put, List.setIfInBounds_toArray, List.set_cons_zero, List.set_cons_succ, i64_w, i32_w]
                                            rfl
                                          refine pure_ (i := 2) (N := some 26) (v := ?_) (a' := ?_) #[true, true, true, false, false, false, false, false, false, false, false, false, false, false, false, false, false, false, false, false, false, false, false, false, false, false, false, false, false, false, false, false, false, false, false, false, false, false, false, false, false, false, false] rfl rfl (any_of HT_.out (by kernel_rfl)) (fun _ _ _ h => h) (Or.inl ⟨by rfl, ?_⟩) ?_ ?_
                                          rotate_left
                                          · intro w'
                                            go_simp
                                            with_reducible rfl
                                          rotate_left
                                          · simp only [Act.put, List.setIfInBounds_toArray, List.set_cons_zero, List.set_cons_succ, i64_w, i32_w]
                                            rfl
                                          refine pure_ (i := 7) (N := some 31) (v := ?_) (a' := ?_) #[true, true, true, false, false, false, false, true, false, false, false, false, false, false, false, false, false, false, false, false, false, false, false, false, false, false, false, false, false, false, false, false, false, false, false, false, false, false, false, false, false, false, false] rfl rfl (any_of HT_.out (by kernel_rfl)) (fun _ _ _ h => h) (Or.inl ⟨by rfl, ?_⟩) ?_ ?_
                                          rotate_left
                                          · intro w'
                                            go_simp
                                            with_reducible rfl
                                          rotate_left
                                          · simp only [Act.put, List.setIfInBounds_toArray, List.set_cons_zero, List.set_cons_succ, i64_w, i32_w]
                                            rfl
                                          refine pure_ (i := 12) (N := some 36) (v := ?_) (a' := ?_) #[true, true, true, false, false, false, false, true, false, false, false, false, true, false, false, false, false, false, false, false, false, false, false, false, false, false, false, false, false, false, false, false, false, false, false, false, false, false, false, false, false, false, false] rfl rfl (any_of HT_.out (by kernel_rfl)) (fun _ _ _ h => h) (Or.inl ⟨by rfl, ?_⟩) ?_ ?_
                                          rotate_left
                                          · intro w'
                                            go_simp
                                            with_reducible rfl
                                          rotate_left
                                          · simp only [Act.put, List.setIfInBounds_toArray, List.set_cons_zero, List.set_cons_succ, i64_w, i32_w]
                                            rfl
                                          refine pure_ (i := 17) (N := some 41) (v := ?_) (a' := ?_) #[true, true, true, false, false, false, false, true, false, false, false, false, true, false, false, false, false, true, false, false, false, false, false, false, false, false, false, false, false, false, false, false, false, false, false, false, false, false, false, false, false, false, false] rfl rfl (any_of HT_.out (by kernel_rfl)) (fun _ _ _ h => h) (Or.inl ⟨by rfl, ?_⟩) ?_ ?_
                                          rotate_left
                                          · intro w'
                                            go_simp
                                            with_reducible rfl
                                          rotate_left
                                          · simp only [Act.put, List.setIfInBounds_toArray, List.set_cons_zero, List.set_cons_succ, i64_w, i32_w]
                                            rfl
                                          refine pure_ (i := 22) (N := some 46) (v := ?_) (a' := ?_) #[true, true, true, false, false, false, false, true, false, false, false, false, true, false, false, false, false, true, false, false, false, false, true, false, false, false, false, false, false, false, false, false, false, false, false, false, false, false, false, false, false, false, false] rfl rfl (any_of HT_.out (by kernel_rfl)) (fun _ _ _ h => h) (Or.inl ⟨by rfl, ?_⟩) ?_ ?_
                                          rotate_left
                                          · intro w'
                                            go_simp
                                            with_reducible rfl
                                          rotate_left
                                          · simp only [Act.put, List.setIfInBounds_toArray, List.set_cons_zero, List.set_cons_succ, i64_w, i32_w]
                                            rfl
                                          refine pure_ (i := 27) (N := some 51) (v := ?_) (a' := ?_) #[true, true, true, false, false, false, false, true, false, false, false, false, true, false, false, false, false, true, false, false, false, false, true, false, false, false, false, true, false, false, false, false, false, false, false, false, false, false, false, false, false, false, false] rfl rfl (any_of HT_.out (by kernel_rfl)) (fun _ _ _ h => h) (Or.inl ⟨by rfl, ?_⟩) ?_ ?_
                                          rotate_left
                                          · intro w'
                                            go_simp
                                            with_reducible rfl
                                          rotate_left
                                          · simp only [Act.put, List.setIfInBounds_toArray, List.set_cons_zero, List.set_cons_succ, i64_w, i32_w]
                                            rfl
                                          refine pure_ (i := 32) (N := some 56) (v := ?_) (a' := ?_) #[true, true, true, false, false, false, false, true, false, false, false, false, true, false, false, false, false, true, false, false, false, false, true, false, false, false, false, true, false, false, false, false, true, false, false, false, false, false, false, false, false, false, false] rfl rfl (any_of HT_.out (by kernel_rfl)) (fun _ _ _ h => h) (Or.inl ⟨by rfl, ?_⟩) ?_ ?_
                                          rotate_left
                                          · intro w'
                                            go_simp
                                            with_reducible rfl
                                          rotate_left
                                          · simp only [Act.put, List.setIfInBounds_toArray, List.set_cons_zero, List.set_cons_succ, i64_w, i32_w]
                                            rfl
                                          refine pure_ (i := 34) (N := some 58) (v := ?_) (a' := ?_) #[true, true, true, false, false, false, false, true, false, false, false, false, true, false, false, false, false, true, false, false, false, false, true, false, false, false, false, true, false, false, false, false, true, false, true, false, false, false, false, false, false, false, false] rfl rfl (any_of HT_.out (by kernel_rfl)) (fun _ _ _ h => h) (Or.inl ⟨by rfl, ?_⟩) ?_ ?_
                                          rotate_left
                                          · intro w'
                                            go_simp
                                            with_reducible rfl
                                          rotate_left
                                          · simp only [Act.put, List.setIfInBounds_toArray, List.set_cons_zero, List.set_cons_succ, i64_w, i32_w]
                                            rfl
                                          refine pure_ (i := 35) (N := some 59) (v := ?_) (a' := ?_) #[true, true, true, false, false, false, false, true, false, false, false, false, true, false, false, false, false, true, false, false, false, false, true, false, false, false, false, true, false, false, false, false, true, false, true, true, false, false, false, false, false, false, false] rfl rfl (any_of HT_.out (by kernel_rfl)) (fun _ _ _ h => h) (Or.inl ⟨by rfl, ?_⟩) ?_ ?_
                                          rotate_left
                                          · intro w'
                                            go_simp
                                            with_reducible rfl
                                          rotate_left
                                          · simp only [Act.put, List.setIfInBounds_toArray, List.set_cons_zero, List.set_cons_succ, i64_w, i32_w]
                                            rfl
                                          refine pure_ (i := 38) (N := some 62) (v := ?_) (a' := ?_) #[true, true, true, false, false, false, false, true, false, false, false, false, true, false, false, false, false, true, false, false, false, false, true, false, false, false, false, true, false, false, false, false, true, false, true, true, false, false, true, false, false, false, false] rfl rfl (any_of HT_.out (by kernel_rfl)) (fun _ _ _ h => h) (Or.inl ⟨by rfl, ?_⟩) ?_ ?_
                                          rotate_left
                                          · intro w'
                                            go_simp
                                            with_reducible rfl
                                          rotate_left
                                          · simp only [Act.put, List.setIfInBounds_toArray, List.set_cons_zero, List.set_cons_succ, i64_w, i32_w]
                                            rfl
                                          refine pure_ (i := 39) (N := some 63) (v := ?_) (a' := ?_) #[true, true, true, false, false, false, false, true, false, false, false, false, true, false, false, false, false, true, false, false, false, false, true, false, false, false, false, true, false, false, false, false, true, false, true, true, false, false, true, true, false, false, false] rfl rfl (any_of HT_.out (by kernel_rfl)) (fun _ _ _ h => h) (Or.inl ⟨by rfl, ?_⟩) ?_ ?_
                                          rotate_left
                                          · intro w'
                                            go_simp
                                            with_reducible rfl
                                          rotate_left
                                          · simp only [Act.put, List.setIfInBounds_toArray, List.set_cons_zero, List.set_cons_succ, i64_w, i32_w]
                                            rfl
                                          refine take_ (i := 3) (N := some 27) (v := ?_) (a' := ?_) #[true, true, true, true, false, false, false, true, false, false, false, false, true, false, false, false, false, true, false, false, false, false, true, false, false, false, false, true, false, false, false, false, true, false, true, true, false, false, true, true, false, false, false] rfl rfl (take_ofW HT_.out HW_.out (by kernel_rfl)) (fun _ _ _ h => h) (Or.inl ⟨by rfl, ?_⟩) hHeld ?_ ?_
                                          rotate_left
                                          · rintro w' ⟨s0, s1, s2, s3, s4, s5, s6⟩
                                            go_simp
                                            with_reducible rfl
                                          rotate_left
                                          · simp only [Act.put, List.setIfInBounds_toArray, List.set_cons_zero, List.set_cons_succ, i64_w, i32_w]
                                            rfl
                                          refine take_ (i := 8) (N := some 32) (v := ?_) (a' := ?_) #[true, true, true, true, false, false, false, true, true, false, false, false, true, false, false, false, false, true, false, false, false, false, true, false, false, false, false, true, false, false, false, false, true, false, true, true, false, false, true, true, false, false, false] rfl rfl (take_ofW HT_.out HW_.out (by kernel_rfl)) (fun _ _ _ h => h) (Or.inl ⟨by rfl, ?_⟩) hHeld ?_ ?_
                                          rotate_left
                                          · rintro w' ⟨s0, s1, s2, s3, s4, s5, s6⟩
                                            go_simp
                                            with_reducible rfl
                                          rotate_left
                                          · simp only [Act.put, List.setIfInBounds_toArray, List.set_cons_zero, List.set_cons_succ, i64_w, i32_w]
                                            rfl
                                          refine pure_ (i := 9) (N := some 33) (v := ?_) (a' := ?_) #[true, true, true, true, false, false, false, true, true, true, false, false, true, false, false, false, false, true, false, false, false, false, true, false, false, false, false, true, false, false, false, false, true, false, true, true, false, false, true, true, false, false, false] rfl rfl (any_of HT_.out (by kernel_rfl)) (fun _ _ _ h => h) (Or.inl ⟨by rfl, ?_⟩) ?_ ?_
                                          rotate_left
                                          · intro w'
                                            go_simp
                                            with_reducible rfl
                                          rotate_left
                                          · simp only [Act.put, List.setIfInBounds_toArray, List.set_cons_zero, List.set_cons_succ, i64_w, i32_w]
                                            rfl
                                          refine take_ (i := 13) (N := some 37) (v := ?_) (a' := ?_) #[true, true, true, true, false, false, false, true, true, true, false, false, true, true, false, false, false, true, false, false, false, false, true, false, false, false, false, true, false, false, false, false, true, false, true, true, false, false, true, true, false, false, false] rfl rfl (take_ofW HT_.out HW_.out (by kernel_rfl)) (fun _ _ _ h => h) (Or.inl ⟨by rfl, ?_⟩) hHeld ?_ ?_
                                          rotate_left
                                          · rintro w' ⟨s0, s1, s2, s3, s4, s5, s6⟩
                                            go_simp
                                            with_reducible rfl
                                          rotate_left
                                          · simp only [Act.put, List.setIfInBounds_toArray, List.set_cons_zero, List.set_cons_succ, i64_w, i32_w]
                                            rfl
                                          refine take_ (i := 18) (N := some 42) (v := ?_) (a' := ?_) #[true, true, true, true, false, false, false, true, true, true, false, false, true, true, false, false, false, true, true, false, false, false, true, false, false, false, false, true, false, false, false, false, true, false, true, true, false, false, true, true, false, false, false] rfl rfl (take_ofW HT_.out HW_.out (by kernel_rfl)) (fun _ _ _ h => h) (Or.inl ⟨by rfl, ?_⟩) hHeld ?_ ?_
                                          rotate_left
                                          · rintro w' ⟨s0, s1, s2, s3, s4, s5, s6⟩
                                            go_simp
                                            with_reducible rfl
                                          rotate_left
                                          · simp only [Act.put, List.setIfInBounds_toArray, List.set_cons_zero, List.set_cons_succ, i64_w, i32_w]
                                            rfl
                                          refine take_ (i := 23) (N := some 47) (v := ?_) (a' := ?_) #[true, true, true, true, false, false, false, true, true, true, false, false, true, true, false, false, false, true, true, false, false, false, true, true, false, false, false, true, false, false, false, false, true, false, true, true, false, false, true, true, false, false, false] rfl rfl (take_ofW HT_.out HW_.out (by kernel_rfl)) (fun _ _ _ h => h) (Or.inl ⟨by rfl, ?_⟩) hHeld ?_ ?_
                                          rotate_left
                                          · rintro w' ⟨s0, s1, s2, s3, s4, s5, s6⟩
                                            go_simp
                                            with_reducible rfl
                                          rotate_left
                                          · simp only [Act.put, List.setIfInBounds_toArray, List.set_cons_zero, List.set_cons_succ, i64_w, i32_w]
                                            rfl
                                          refine take_ (i := 28) (N := some 52) (v := ?_) (a' := ?_) #[true, true, true, true, false, false, false, true, true, true, false, false, true, true, false, false, false, true, true, false, false, false, true, true, false, false, false, true, true, false, false, false, true, false, true, true, false, false, true, true, false, false, false] rfl rfl (take_ofW HT_.out HW_.out (by kernel_rfl)) (fun _ _ _ h => h) (Or.inl ⟨by rfl, ?_⟩) hHeld ?_ ?_
                                          rotate_left
                                          · rintro w' ⟨s0, s1, s2, s3, s4, s5, s6⟩
                                            go_simp
                                            with_reducible rfl
                                          rotate_left
                                          · simp only [Act.put, List.setIfInBounds_toArray, List.set_cons_zero, List.set_cons_succ, i64_w, i32_w]
                                            rfl
                                          refine one_ (i := 4) (N := some 28) #[true, true, true, true, true, false, false, true, true, true, false, false, true, true, false, false, false, true, true, false, false, false, true, true, false, false, false, true, true, false, false, false, true, false, true, true, false, false, true, true, false, false, false] rfl rfl (one_of HT_.out (by kernel_rfl)) (by decide) (fun K hK => ?_)
                                          refine goes_ Try.func40 (by kernel_rfl) rfl #[.int .i64 a0_1] (by rfl) rfl rfl (by (try simp only [List.map_toArray, List.map_cons, List.map_nil]); first | done | rfl | (simp only [List.length_drop, List.length_take]; rfl)) ?_
                                          with_reducible refine (haversackref09_Months.calls a0_1 t193 _ A19.out).mono ?_
                                          rintro e w42 ⟨rfl, hb⟩
                                          refine ⟨_, rfl, ?_⟩
                                          have n0_ := Aside0.mk (blk_below (g := gb190) (o := .cells #[.int .i64 a0_0, .int .i64 a0_1, .int .i64 a0_2, .int .i64 a0_3, .int .i64 a0_4, .int .i64 a0_5, .int .i64 a0_6] 23 (0, 0)) (by (with_reducible repeat (first | refine blk_drewN ?_ _ | refine blk_drew ?_ | refine blk_alloc ?_ _)); exact BK190.out) hb)
                                          have n1_ := Aside0.mk (below_step (by repeat (first | (with_reducible first | exact HB.out | apply below_alloc | apply pw_below_drewN | apply below_drew1 | refine below_set ?_ GE190.out) | exact HB.out)) hb)
                                          clear BK190
                                          clear HB
                                          have BK190 := n0_
                                          have HB := n1_
                                          clear n0_ n1_
                                          (try clear hb)
                                          (try clear hb2)
                                          (try clear hk)
                                          (try clear hi)
                                          refine hK.out _ _ ⟨(blk_cell BK190.out 0).trans rfl, (blk_cell BK190.out 1).trans rfl, (blk_cell BK190.out 2).trans rfl, (blk_cell BK190.out 3).trans rfl, (blk_cell BK190.out 4).trans rfl, (blk_cell BK190.out 5).trans rfl, (blk_cell BK190.out 6).trans rfl⟩ (fun hHeld => ?_)
                                          clear hK K
                                          refine norm_ (a' := ?_) ?_ ?_
                                          rotate_left
                                          · show Act.put _ (some 28) _ = _
                                            simp only [Act.put, List.setIfInBounds_toArray, List.set_cons_zero, List.set_cons_succ, i64_w, i32_w]
                                            rfl
                                          refine pure_ (i := 5) (N := some 29) (v := ?_) (a' := ?_) #[true, true, true, true, true, true, false, true, true, true, false, false, true, true, false, false, false, true, true, false, false, false, true, true, false, false, false, true, true, false, false, false, true, false, true, true, false, false, true, true, false, false, false] rfl rfl (any_of HT_.out (by kernel_rfl)) (fun _ _ _ h => h) (Or.inl ⟨by rfl, ?_⟩) ?_ ?_
                                          rotate_left
                                          · intro w'
                                            go_simp
                                            with_reducible rfl
                                          rotate_left
                                          · simp only [Act.put, List.setIfInBounds_toArray, List.set_cons_zero, List.set_cons_succ, i64_w, i32_w]
                                            rfl
                                          refine pure_ (i := 6) (N := some 30) (v := ?_) (a' := ?_) #[true, true, true, true, true, true, true, true, true, true, false, false, true, true, false, false, false, true, true, false, false, false, true, true, false, false, false, true, true, false, false, false, true, false, true, true, false, false, true, true, false, false, false] rfl rfl (any_of HT_.out (by kernel_rfl)) (fun _ _ _ h => h) (Or.inl ⟨by rfl, ?_⟩) ?_ ?_
                                          rotate_left
                                          · intro w'
                                            go_simp
                                            with_reducible rfl
                                          rotate_left
                                          · simp only [Act.put, List.setIfInBounds_toArray, List.set_cons_zero, List.set_cons_succ, i64_w, i32_w]
                                            rfl
                                          refine one_ (i := 10) (N := some 34) #[true, true, true, true, true, true, true, true, true, true, true, false, true, true, false, false, false, true, true, false, false, false, true, true, false, false, false, true, true, false, false, false, true, false, true, true, false, false, true, true, false, false, false] rfl rfl (one_of HT_.out (by kernel_rfl)) (by decide) (fun K hK => ?_)
                                          refine goes_ Try.func39 (by kernel_rfl) rfl #[.int .i64 (wrap64 (Int.tdiv a0_0 100))] (by rfl) rfl rfl (by (try simp only [List.map_toArray, List.map_cons, List.map_nil]); first | done | rfl | (simp only [List.length_drop, List.length_take]; rfl)) ?_
                                          with_reducible refine (haversackref09_two.calls (wrap64 (Int.tdiv a0_0 100)) t194 _ A22.out).mono ?_
                                          rintro e w43 ⟨rfl, hb⟩
                                          refine ⟨_, rfl, ?_⟩
                                          have n0_ := Aside0.mk (blk_below (g := gb190) (o := .cells #[.int .i64 a0_0, .int .i64 a0_1, .int .i64 a0_2, .int .i64 a0_3, .int .i64 a0_4, .int .i64 a0_5, .int .i64 a0_6] 23 (0, 0)) (by (with_reducible repeat (first | refine blk_drewN ?_ _ | refine blk_drew ?_ | refine blk_alloc ?_ _)); exact BK190.out) hb)
                                          have n1_ := Aside0.mk (below_step (by repeat (first | (with_reducible first | exact HB.out | apply below_alloc | apply pw_below_drewN | apply below_drew1 | refine below_set ?_ GE190.out) | exact HB.out)) hb)
                                          clear BK190
                                          clear HB
                                          have BK190 := n0_
                                          have HB := n1_
                                          clear n0_ n1_
                                          (try clear hb)
                                          (try clear hb2)
                                          (try clear hk)
                                          (try clear hi)
                                          refine hK.out _ _ ⟨(blk_cell BK190.out 0).trans rfl, (blk_cell BK190.out 1).trans rfl, (blk_cell BK190.out 2).trans rfl, (blk_cell BK190.out 3).trans rfl, (blk_cell BK190.out 4).trans rfl, (blk_cell BK190.out 5).trans rfl, (blk_cell BK190.out 6).trans rfl⟩ (fun hHeld => ?_)
                                          clear hK K
                                          refine norm_ (a' := ?_) ?_ ?_
                                          rotate_left
                                          · show Act.put _ (some 34) _ = _
                                            simp only [Act.put, List.setIfInBounds_toArray, List.set_cons_zero, List.set_cons_succ, i64_w, i32_w]
                                            rfl
                                          refine pure_ (i := 11) (N := some 35) (v := ?_) (a' := ?_) #[true, true, true, true, true, true, true, true, true, true, true, true, true, true, false, false, false, true, true, false, false, false, true, true, false, false, false, true, true, false, false, false, true, false, true, true, false, false, true, true, false, false, false] rfl rfl (any_of HT_.out (by kernel_rfl)) (fun _ _ _ h => h) (Or.inl ⟨by rfl, ?_⟩) ?_ ?_
                                          rotate_left
                                          · intro w'
                                            go_simp
                                            with_reducible rfl
                                          rotate_left
                                          · simp only [Act.put, List.setIfInBounds_toArray, List.set_cons_zero, List.set_cons_succ, i64_w, i32_w]
                                            rfl
                                          refine one_ (i := 14) (N := some 38) #[true, true, true, true, true, true, true, true, true, true, true, true, true, true, true, false, false, true, true, false, false, false, true, true, false, false, false, true, true, false, false, false, true, false, true, true, false, false, true, true, false, false, false] rfl rfl (one_of HT_.out (by kernel_rfl)) (by decide) (fun K hK => ?_)
                                          refine goes_ Try.func39 (by kernel_rfl) rfl #[.int .i64 a0_0] (by rfl) rfl rfl (by (try simp only [List.map_toArray, List.map_cons, List.map_nil]); first | done | rfl | (simp only [List.length_drop, List.length_take]; rfl)) ?_
                                          with_reducible refine (haversackref09_two.calls a0_0 t195 _ A24.out).mono ?_
                                          rintro e w44 ⟨rfl, hb⟩
                                          refine ⟨_, rfl, ?_⟩
                                          have n0_ := Aside0.mk (blk_below (g := gb190) (o := .cells #[.int .i64 a0_0, .int .i64 a0_1, .int .i64 a0_2, .int .i64 a0_3, .int .i64 a0_4, .int .i64 a0_5, .int .i64 a0_6] 23 (0, 0)) (by (with_reducible repeat (first | refine blk_drewN ?_ _ | refine blk_drew ?_ | refine blk_alloc ?_ _)); exact BK190.out) hb)
                                          have n1_ := Aside0.mk (below_step (by repeat (first | (with_reducible first | exact HB.out | apply below_alloc | apply pw_below_drewN | apply below_drew1 | refine below_set ?_ GE190.out) | exact HB.out)) hb)
                                          clear BK190
                                          clear HB
                                          have BK190 := n0_
                                          have HB := n1_
                                          clear n0_ n1_
                                          (try clear hb)
                                          (try clear hb2)
                                          (try clear hk)
                                          (try clear hi)
                                          refine hK.out _ _ ⟨(blk_cell BK190.out 0).trans rfl, (blk_cell BK190.out 1).trans rfl, (blk_cell BK190.out 2).trans rfl, (blk_cell BK190.out 3).trans rfl, (blk_cell BK190.out 4).trans rfl, (blk_cell BK190.out 5).trans rfl, (blk_cell BK190.out 6).trans rfl⟩ (fun hHeld => ?_)
                                          clear hK K
                                          refine norm_ (a' := ?_) ?_ ?_
                                          rotate_left
                                          · show Act.put _ (some 38) _ = _
                                            simp only [Act.put, List.setIfInBounds_toArray, List.set_cons_zero, List.set_cons_succ, i64_w, i32_w]
                                            rfl
                                          refine pure_ (i := 15) (N := some 39) (v := ?_) (a' := ?_) #[true, true, true, true, true, true, true, true, true, true, true, true, true, true, true, true, false, true, true, false, false, false, true, true, false, false, false, true, true, false, false, false, true, false, true, true, false, false, true, true, false, false, false] rfl rfl (any_of HT_.out (by kernel_rfl)) (fun _ _ _ h => h) (Or.inl ⟨by rfl, ?_⟩) ?_ ?_
                                          rotate_left
                                          · intro w'
                                            go_simp
                                            with_reducible rfl
                                          rotate_left
                                          · simp only [Act.put, List.setIfInBounds_toArray, List.set_cons_zero, List.set_cons_succ, i64_w, i32_w]
                                            rfl
                                          refine pure_ (i := 16) (N := some 40) (v := ?_) (a' := ?_) #[true, true, true, true, true, true, true, true, true, true, true, true, true, true, true, true, true, true, true, false, false, false, true, true, false, false, false, true, true, false, false, false, true, false, true, true, false, false, true, true, false, false, false] rfl rfl (any_of HT_.out (by kernel_rfl)) (fun _ _ _ h => h) (Or.inl ⟨by rfl, ?_⟩) ?_ ?_
                                          rotate_left
                                          · intro w'
                                            go_simp
                                            with_reducible rfl
                                          rotate_left
                                          · simp only [Act.put, List.setIfInBounds_toArray, List.set_cons_zero, List.set_cons_succ, i64_w, i32_w]
                                            rfl
                                          refine one_ (i := 19) (N := some 43) #[true, true, true, true, true, true, true, true, true, true, true, true, true, true, true, true, true, true, true, true, false, false, true, true, false, false, false, true, true, false, false, false, true, false, true, true, false, false, true, true, false, false, false] rfl rfl (one_of HT_.out (by kernel_rfl)) (by decide) (fun K hK => ?_)
                                          refine goes_ Try.func39 (by kernel_rfl) rfl #[.int .i64 a0_3] (by rfl) rfl rfl (by (try simp only [List.map_toArray, List.map_cons, List.map_nil]); first | done | rfl | (simp only [List.length_drop, List.length_take]; rfl)) ?_
                                          with_reducible refine (haversackref09_two.calls a0_3 t196 _ A27.out).mono ?_
                                          rintro e w45 ⟨rfl, hb⟩
                                          refine ⟨_, rfl, ?_⟩
                                          have n0_ := Aside0.mk (blk_below (g := gb190) (o := .cells #[.int .i64 a0_0, .int .i64 a0_1, .int .i64 a0_2, .int .i64 a0_3, .int .i64 a0_4, .int .i64 a0_5, .int .i64 a0_6] 23 (0, 0)) (by (with_reducible repeat (first | refine blk_drewN ?_ _ | refine blk_drew ?_ | refine blk_alloc ?_ _)); exact BK190.out) hb)
                                          have n1_ := Aside0.mk (below_step (by repeat (first | (with_reducible first | exact HB.out | apply below_alloc | apply pw_below_drewN | apply below_drew1 | refine below_set ?_ GE190.out) | exact HB.out)) hb)
                                          clear BK190
                                          clear HB
                                          have BK190 := n0_
                                          have HB := n1_
                                          clear n0_ n1_
                                          (try clear hb)
                                          (try clear hb2)
                                          (try clear hk)
                                          (try clear hi)
                                          refine hK.out _ _ ⟨(blk_cell BK190.out 0).trans rfl, (blk_cell BK190.out 1).trans rfl, (blk_cell BK190.out 2).trans rfl, (blk_cell BK190.out 3).trans rfl, (blk_cell BK190.out 4).trans rfl, (blk_cell BK190.out 5).trans rfl, (blk_cell BK190.out 6).trans rfl⟩ (fun hHeld => ?_)
                                          clear hK K
                                          refine norm_ (a' := ?_) ?_ ?_
                                          rotate_left
                                          · show Act.put _ (some 43) _ = _
                                            simp only [Act.put, List.setIfInBounds_toArray, List.set_cons_zero, List.set_cons_succ, i64_w, i32_w]
                                            rfl
                                          refine pure_ (i := 20) (N := some 44) (v := ?_) (a' := ?_) #[true, true, true, true, true, true, true, true, true, true, true, true, true, true, true, true, true, true, true, true, true, false, true, true, false, false, false, true, true, false, false, false, true, false, true, true, false, false, true, true, false, false, false] rfl rfl (any_of HT_.out (by kernel_rfl)) (fun _ _ _ h => h) (Or.inl ⟨by rfl, ?_⟩) ?_ ?_
                                          rotate_left
                                          · intro w'
                                            go_simp
                                            with_reducible rfl
                                          rotate_left
                                          · simp only [Act.put, List.setIfInBounds_toArray, List.set_cons_zero, List.set_cons_succ, i64_w, i32_w]
                                            rfl
                                          refine pure_ (i := 21) (N := some 45) (v := ?_) (a' := ?_) #[true, true, true, true, true, true, true, true, true, true, true, true, true, true, true, true, true, true, true, true, true, true, true, true, false, false, false, true, true, false, false, false, true, false, true, true, false, false, true, true, false, false, false] rfl rfl (any_of HT_.out (by kernel_rfl)) (fun _ _ _ h => h) (Or.inl ⟨by rfl, ?_⟩) ?_ ?_
                                          rotate_left
                                          · intro w'
                                            go_simp
                                            with_reducible rfl
                                          rotate_left
                                          · simp only [Act.put, List.setIfInBounds_toArray, List.set_cons_zero, List.set_cons_succ, i64_w, i32_w]
                                            rfl
                                          refine one_ (i := 24) (N := some 48) #[true, true, true, true, true, true, true, true, true, true, true, true, true, true, true, true, true, true, true, true, true, true, true, true, true, false, false, true, true, false, false, false, true, false, true, true, false, false, true, true, false, false, false] rfl rfl (one_of HT_.out (by kernel_rfl)) (by decide) (fun K hK => ?_)
                                          refine goes_ Try.func39 (by kernel_rfl) rfl #[.int .i64 a0_4] (by rfl) rfl rfl (by (try simp only [List.map_toArray, List.map_cons, List.map_nil]); first | done | rfl | (simp only [List.length_drop, List.length_take]; rfl)) ?_
                                          with_reducible refine (haversackref09_two.calls a0_4 t197 _ A30.out).mono ?_
                                          rintro e w46 ⟨rfl, hb⟩
                                          refine ⟨_, rfl, ?_⟩
                                          have n0_ := Aside0.mk (blk_below (g := gb190) (o := .cells #[.int .i64 a0_0, .int .i64 a0_1, .int .i64 a0_2, .int .i64 a0_3, .int .i64 a0_4, .int .i64 a0_5, .int .i64 a0_6] 23 (0, 0)) (by (with_reducible repeat (first | refine blk_drewN ?_ _ | refine blk_drew ?_ | refine blk_alloc ?_ _)); exact BK190.out) hb)
                                          have n1_ := Aside0.mk (below_step (by repeat (first | (with_reducible first | exact HB.out | apply below_alloc | apply pw_below_drewN | apply below_drew1 | refine below_set ?_ GE190.out) | exact HB.out)) hb)
                                          clear BK190
                                          clear HB
                                          have BK190 := n0_
                                          have HB := n1_
                                          clear n0_ n1_
                                          (try clear hb)
                                          (try clear hb2)
                                          (try clear hk)
                                          (try clear hi)
                                          refine hK.out _ _ ⟨(blk_cell BK190.out 0).trans rfl, (blk_cell BK190.out 1).trans rfl, (blk_cell BK190.out 2).trans rfl, (blk_cell BK190.out 3).trans rfl, (blk_cell BK190.out 4).trans rfl, (blk_cell BK190.out 5).trans rfl, (blk_cell BK190.out 6).trans rfl⟩ (fun hHeld => ?_)
                                          clear hK K
                                          refine norm_ (a' := ?_) ?_ ?_
                                          rotate_left
                                          · show Act.put _ (some 48) _ = _
                                            simp only [Act.put, List.setIfInBounds_toArray, List.set_cons_zero, List.set_cons_succ, i64_w, i32_w]
                                            rfl
                                          refine pure_ (i := 25) (N := some 49) (v := ?_) (a' := ?_) #[true, true, true, true, true, true, true, true, true, true, true, true, true, true, true, true, true, true, true, true, true, true, true, true, true, true, false, true, true, false, false, false, true, false, true, true, false, false, true, true, false, false, false] rfl rfl (any_of HT_.out (by kernel_rfl)) (fun _ _ _ h => h) (Or.inl ⟨by rfl, ?_⟩) ?_ ?_
                                          rotate_left
                                          · intro w'
                                            go_simp
                                            with_reducible rfl
                                          rotate_left
                                          · simp only [Act.put, List.setIfInBounds_toArray, List.set_cons_zero, List.set_cons_succ, i64_w, i32_w]
                                            rfl
                                          refine pure_ (i := 26) (N := some 50) (v := ?_) (a' := ?_) #[true, true, true, true, true, true, true, true, true, true, true, true, true, true, true, true, true, true, true, true, true, true, true, true, true, true, true, true, true, false, false, false, true, false, true, true, false, false, true, true, false, false, false] rfl rfl (any_of HT_.out (by kernel_rfl)) (fun _ _ _ h => h) (Or.inl ⟨by rfl, ?_⟩) ?_ ?_
                                          rotate_left
                                          · intro w'
                                            go_simp
                                            with_reducible rfl
                                          rotate_left
                                          · simp only [Act.put, List.setIfInBounds_toArray, List.set_cons_zero, List.set_cons_succ, i64_w, i32_w]
                                            rfl
                                          refine one_ (i := 29) (N := some 53) #[true, true, true, true, true, true, true, true, true, true, true, true, true, true, true, true, true, true, true, true, true, true, true, true, true, true, true, true, true, true, false, false, true, false, true, true, false, false, true, true, false, false, false] rfl rfl (one_of HT_.out (by kernel_rfl)) (by decide) (fun K hK => ?_)
                                          refine goes_ Try.func39 (by kernel_rfl) rfl #[.int .i64 a0_5] (by rfl) rfl rfl (by (try simp only [List.map_toArray, List.map_cons, List.map_nil]); first | done | rfl | (simp only [List.length_drop, List.length_take]; rfl)) ?_
                                          with_reducible refine (haversackref09_two.calls a0_5 t198 _ A33.out).mono ?_
                                          rintro e w47 ⟨rfl, hb⟩
                                          refine ⟨_, rfl, ?_⟩
                                          have n0_ := Aside0.mk (blk_below (g := gb190) (o := .cells #[.int .i64 a0_0, .int .i64 a0_1, .int .i64 a0_2, .int .i64 a0_3, .int .i64 a0_4, .int .i64 a0_5, .int .i64 a0_6] 23 (0, 0)) (by (with_reducible repeat (first | refine blk_drewN ?_ _ | refine blk_drew ?_ | refine blk_alloc ?_ _)); exact BK190.out) hb)
                                          have n1_ := Aside0.mk (below_step (by repeat (first | (with_reducible first | exact HB.out | apply below_alloc | apply pw_below_drewN | apply below_drew1 | refine below_set ?_ GE190.out) | exact HB.out)) hb)
                                          clear BK190
                                          clear HB
                                          have BK190 := n0_
                                          have HB := n1_
                                          clear n0_ n1_
                                          (try clear hb)
                                          (try clear hb2)
                                          (try clear hk)
                                          (try clear hi)
                                          refine hK.out _ _ ⟨(blk_cell BK190.out 0).trans rfl, (blk_cell BK190.out 1).trans rfl, (blk_cell BK190.out 2).trans rfl, (blk_cell BK190.out 3).trans rfl, (blk_cell BK190.out 4).trans rfl, (blk_cell BK190.out 5).trans rfl, (blk_cell BK190.out 6).trans rfl⟩ (fun hHeld => ?_)
                                          clear hK K
                                          refine norm_ (a' := ?_) ?_ ?_
                                          rotate_left
                                          · show Act.put _ (some 53) _ = _
                                            simp only [Act.put, List.setIfInBounds_toArray, List.set_cons_zero, List.set_cons_succ, i64_w, i32_w]
                                            rfl
                                          refine pure_ (i := 30) (N := some 54) (v := ?_) (a' := ?_) #[true, true, true, true, true, true, true, true, true, true, true, true, true, true, true, true, true, true, true, true, true, true, true, true, true, true, true, true, true, true, true, false, true, false, true, true, false, false, true, true, false, false, false] rfl rfl (any_of HT_.out (by kernel_rfl)) (fun _ _ _ h => h) (Or.inl ⟨by rfl, ?_⟩) ?_ ?_
                                          rotate_left
                                          · intro w'
                                            go_simp
                                            with_reducible rfl
                                          rotate_left
                                          · simp only [Act.put, List.setIfInBounds_toArray, List.set_cons_zero, List.set_cons_succ, i64_w, i32_w]
                                            rfl
                                          refine pure_ (i := 31) (N := some 55) (v := ?_) (a' := ?_) #[true, true, true, true, true, true, true, true, true, true, true, true, true, true, true, true, true, true, true, true, true, true, true, true, true, true, true, true, true, true, true, true, true, false, true, true, false, false, true, true, false, false, false] rfl rfl (any_of HT_.out (by kernel_rfl)) (fun _ _ _ h => h) (Or.inl ⟨by rfl, ?_⟩) ?_ ?_
                                          rotate_left
                                          · intro w'
                                            go_simp
                                            with_reducible rfl
                                          rotate_left
                                          · simp only [Act.put, List.setIfInBounds_toArray, List.set_cons_zero, List.set_cons_succ, i64_w, i32_w]
                                            rfl
                                          refine pure_ (i := 33) (N := some 57) (v := ?_) (a' := ?_) #[true, true, true, true, true, true, true, true, true, true, true, true, true, true, true, true, true, true, true, true, true, true, true, true, true, true, true, true, true, true, true, true, true, true, true, true, false, false, true, true, false, false, false] rfl rfl (any_of HT_.out (by kernel_rfl)) (fun _ _ _ h => h) (Or.inl ⟨by rfl, ?_⟩) ?_ ?_
                                          rotate_left
                                          · intro w'
                                            go_simp
                                            with_reducible rfl
                                          rotate_left
                                          · simp only [Act.put, List.setIfInBounds_toArray, List.set_cons_zero, List.set_cons_succ, i64_w, i32_w]
                                            rfl
                                          refine one_ (i := 36) (N := some 60) #[true, true, true, true, true, true, true, true, true, true, true, true, true, true, true, true, true, true, true, true, true, true, true, true, true, true, true, true, true, true, true, true, true, true, true, true, true, false, true, true, false, false, false] rfl rfl (one_of HT_.out (by kernel_rfl)) (by decide) (fun K hK => ?_)
                                          refine goes_ Try.func39 (by kernel_rfl) rfl #[.int .i64 (wrap64 (Int.tdiv x4_14 60))] (by rfl) rfl rfl (by (try simp only [List.map_toArray, List.map_cons, List.map_nil]); first | done | rfl | (simp only [List.length_drop, List.length_take]; rfl)) ?_
                                          with_reducible refine (haversackref09_two.calls (wrap64 (Int.tdiv x4_14 60)) t199 _ A37.out).mono ?_
                                          rintro e w48 ⟨rfl, hb⟩
                                          refine ⟨_, rfl, ?_⟩
                                          have n0_ := Aside0.mk (blk_below (g := gb190) (o := .cells #[.int .i64 a0_0, .int .i64 a0_1, .int .i64 a0_2, .int .i64 a0_3, .int .i64 a0_4, .int .i64 a0_5, .int .i64 a0_6] 23 (0, 0)) (by (with_reducible repeat (first | refine blk_drewN ?_ _ | refine blk_drew ?_ | refine blk_alloc ?_ _)); exact BK190.out) hb)
                                          have n1_ := Aside0.mk (below_step (by repeat (first | (with_reducible first | exact HB.out | apply below_alloc | apply pw_below_drewN | apply below_drew1 | refine below_set ?_ GE190.out) | exact HB.out)) hb)
                                          clear BK190
                                          clear HB
                                          have BK190 := n0_
                                          have HB := n1_
                                          clear n0_ n1_
                                          (try clear hb)
                                          (try clear hb2)
                                          (try clear hk)
                                          (try clear hi)
                                          refine hK.out _ _ ⟨(blk_cell BK190.out 0).trans rfl, (blk_cell BK190.out 1).trans rfl, (blk_cell BK190.out 2).trans rfl, (blk_cell BK190.out 3).trans rfl, (blk_cell BK190.out 4).trans rfl, (blk_cell BK190.out 5).trans rfl, (blk_cell BK190.out 6).trans rfl⟩ (fun hHeld => ?_)
                                          clear hK K
                                          refine norm_ (a' := ?_) ?_ ?_
                                          rotate_left
                                          · show Act.put _ (some 60) _ = _
                                            simp only [Act.put, List.setIfInBounds_toArray, List.set_cons_zero, List.set_cons_succ, i64_w, i32_w]
                                            rfl
                                          refine pure_ (i := 37) (N := some 61) (v := ?_) (a' := ?_) #[true, true, true, true, true, true, true, true, true, true, true, true, true, true, true, true, true, true, true, true, true, true, true, true, true, true, true, true, true, true, true, true, true, true, true, true, true, true, true, true, false, false, false] rfl rfl (any_of HT_.out (by kernel_rfl)) (fun _ _ _ h => h) (Or.inl ⟨by rfl, ?_⟩) ?_ ?_
                                          rotate_left
                                          · intro w'
                                            go_simp
                                            with_reducible rfl
                                          rotate_left
                                          · simp only [Act.put, List.setIfInBounds_toArray, List.set_cons_zero, List.set_cons_succ, i64_w, i32_w]
                                            rfl
                                          refine one_ (i := 40) (N := some 64) #[true, true, true, true, true, true, true, true, true, true, true, true, true, true, true, true, true, true, true, true, true, true, true, true, true, true, true, true, true, true, true, true, true, true, true, true, true, true, true, true, true, false, false] rfl rfl (one_of HT_.out (by kernel_rfl)) (by decide) (fun K hK => ?_)
                                          refine goes_ Try.func39 (by kernel_rfl) rfl #[.int .i64 (Int.tmod x4_14 60)] (by rfl) rfl rfl (by (try simp only [List.map_toArray, List.map_cons, List.map_nil]); first | done | rfl | (simp only [List.length_drop, List.length_take]; rfl)) ?_
                                          with_reducible refine (haversackref09_two.calls (Int.tmod x4_14 60) t200 _ A39.out).mono ?_
                                          rintro e w49 ⟨rfl, hb⟩
                                          refine ⟨_, rfl, ?_⟩
                                          have n0_ := Aside0.mk (blk_below (g := gb190) (o := .cells #[.int .i64 a0_0, .int .i64 a0_1, .int .i64 a0_2, .int .i64 a0_3, .int .i64 a0_4, .int .i64 a0_5, .int .i64 a0_6] 23 (0, 0)) (by (with_reducible repeat (first | refine blk_drewN ?_ _ | refine blk_drew ?_ | refine blk_alloc ?_ _)); exact BK190.out) hb)
                                          have n1_ := Aside0.mk (below_step (by repeat (first | (with_reducible first | exact HB.out | apply below_alloc | apply pw_below_drewN | apply below_drew1 | refine below_set ?_ GE190.out) | exact HB.out)) hb)
                                          clear BK190
                                          clear HB
                                          have BK190 := n0_
                                          have HB := n1_
                                          clear n0_ n1_
                                          (try clear hb)
                                          (try clear hb2)
                                          (try clear hk)
                                          (try clear hi)
                                          refine hK.out _ _ ⟨(blk_cell BK190.out 0).trans rfl, (blk_cell BK190.out 1).trans rfl, (blk_cell BK190.out 2).trans rfl, (blk_cell BK190.out 3).trans rfl, (blk_cell BK190.out 4).trans rfl, (blk_cell BK190.out 5).trans rfl, (blk_cell BK190.out 6).trans rfl⟩ (fun hHeld => ?_)
                                          clear hK K
                                          refine norm_ (a' := ?_) ?_ ?_
                                          rotate_left
                                          · show Act.put _ (some 64) _ = _
                                            simp only [Act.put, List.setIfInBounds_toArray, List.set_cons_zero, List.set_cons_succ, i64_w, i32_w]
                                            rfl
                                          refine pure_ (i := 41) (N := some 65) (v := ?_) (a' := ?_) #[true, true, true, true, true, true, true, true, true, true, true, true, true, true, true, true, true, true, true, true, true, true, true, true, true, true, true, true, true, true, true, true, true, true, true, true, true, true, true, true, true, true, false] rfl rfl (any_of HT_.out (by kernel_rfl)) (fun _ _ _ h => h) (Or.inl ⟨by rfl, ?_⟩) ?_ ?_
                                          rotate_left
                                          · intro w'
                                            go_simp
                                            with_reducible rfl
                                          rotate_left
                                          · simp only [Act.put, List.setIfInBounds_toArray, List.set_cons_zero, List.set_cons_succ, i64_w, i32_w]
                                            rfl
                                          refine pure_ (i := 42) (N := some 2) (v := ?_) (a' := ?_) #[true, true, true, true, true, true, true, true, true, true, true, true, true, true, true, true, true, true, true, true, true, true, true, true, true, true, true, true, true, true, true, true, true, true, true, true, true, true, true, true, true, true, true] rfl rfl (any_of HT_.out (by kernel_rfl)) (fun _ _ _ h => h) (Or.inl ⟨by rfl, ?_⟩) ?_ ?_
                                          rotate_left
                                          · intro w'
                                            go_simp
                                            with_reducible rfl
                                          rotate_left
                                          · simp only [Act.put, List.setIfInBounds_toArray, List.set_cons_zero, List.set_cons_succ, i64_w, i32_w]
                                            rfl
                                          refine done_ (done_of HT_.out (by kernel_rfl)) ?_
                                          try go_wp2
                                          go_ret
                                          exact ⟨by first | rfl | (simp [errW_none, errW_some] <;> rfl) | (simp [*, errW_none, errW_some] <;> rfl), by repeat (first | (with_reducible first | exact HB.out | apply below_alloc | apply pw_below_drewN | apply below_drew1 | refine below_set ?_ GE190.out) | exact HB.out)⟩
                                        · rw [if_neg c40] at H
                                          exact absurd H (by simp)
                                      · rw [if_neg c38] at H
                                        exact absurd H (by simp)
                                    · rw [if_neg c36] at H
                                      exact absurd H (by simp)
                                  · rw [if_neg c35] at H
                                    exact absurd H (by simp)
                                · rw [if_neg c34] at H
                                  exact absurd H (by simp)
                              · rw [if_neg c32] at H
                                exact absurd H (by simp)
                            · rw [if_neg c31] at H
                              exact absurd H (by simp)
                          · rw [if_neg c29] at H
                            exact absurd H (by simp)
                        · rw [if_neg c28] at H
                          exact absurd H (by simp)
                      · rw [if_neg c26] at H
                        exact absurd H (by simp)
                    · rw [if_neg c25] at H
                      exact absurd H (by simp)
                  · rw [if_neg c23] at H
                    exact absurd H (by simp)
                · rw [if_neg c21] at H
                  exact absurd H (by simp)
              · rw [if_neg c20] at H
                exact absurd H (by simp)
            · rw [if_neg c18] at H
              exact absurd H (by simp)
  · replace c3 := Bool.eq_false_iff.mpr c3
    subst c3
    have H1 : (some (⟨#[]⟩ : ByteArray)) = some r := by rw [if_neg (show ¬ (false = true) by decide)] at H; exact H
    clear H
    have H := H1
    clear H1
    obtain rfl := Option.some.inj H
    go_enter Try.func12, Try.ntmps12
    go_wp2_with (first | ((with_reducible refine gate_dst (N := 1) rfl ?_); refine box_event ?hg (N := 1) ?hd (cs := #[.int .i64 a0_0, .int .i64 a0_1, .int .i64 a0_2, .int .i64 a0_3, .int .i64 a0_4, .int .i64 a0_5, .int .i64 a0_6]) (t := 23) ?hr ?_; (case hd => rfl); (case hg => rfl); (case hr => first | (go_simp; done) | (go_simp; rfl)); intro gb190 hg w50 hbox hb; have n0_ := Aside0.mk (below_step (by repeat (first | (with_reducible first | exact HB.out | apply below_alloc | apply pw_below_drewN | apply below_drew1) | exact HB.out)) hb); have n1_ := Aside0.mk (hbox); have n2_ := Aside0.mk ((by rw [hg]; exact (below_size (by repeat (first | (with_reducible first | exact HB.out | apply below_alloc | apply pw_below_drewN | apply below_drew1) | exact HB.out))) : w.heap.size ≤ gb190)); have n3_ := Aside0.mk ((by rw [hg]; exact (below_size (by repeat (first | (with_reducible first | exact HB.out | apply below_alloc | apply pw_below_drewN | apply below_drew1) | exact HB.out))) : w.heap.size ≤ gb190)); clear HB; have HB := n0_; have BK190 := n1_; have GW190 := n2_; have GE190 := n3_; clear n0_ n1_ n2_ n3_; clear hb hbox hg; have hcz51_0 : w50.cell? ⟨gb190, 0, none⟩ = some (.int .i64 a0_0) := (blk_cell BK190.out 0).trans rfl; have hcz51_1 : w50.cell? ⟨gb190, 1, none⟩ = some (.int .i64 a0_1) := (blk_cell BK190.out 1).trans rfl; have hcz51_2 : w50.cell? ⟨gb190, 2, none⟩ = some (.int .i64 a0_2) := (blk_cell BK190.out 2).trans rfl; have hcz51_3 : w50.cell? ⟨gb190, 3, none⟩ = some (.int .i64 a0_3) := (blk_cell BK190.out 3).trans rfl; have hcz51_4 : w50.cell? ⟨gb190, 4, none⟩ = some (.int .i64 a0_4) := (blk_cell BK190.out 4).trans rfl; have hcz51_5 : w50.cell? ⟨gb190, 5, none⟩ = some (.int .i64 a0_5) := (blk_cell BK190.out 5).trans rfl; have hcz51_6 : w50.cell? ⟨gb190, 6, none⟩ = some (.int .i64 a0_6) := (blk_cell BK190.out 6).trans rfl; have hfz51_0 := blk_frozen BK190.out 0; have hfz51_1 := blk_frozen BK190.out 1; have hfz51_2 := blk_frozen BK190.out 2; have hfz51_3 := blk_frozen BK190.out 3; have hfz51_4 := blk_frozen BK190.out 4; have hfz51_5 := blk_frozen BK190.out 5; have hfz51_6 := blk_frozen BK190.out 6) | ((with_reducible refine gate_callee (f := 22) rfl ?_); refine goesL_ (some 7) rfl rfl Try.func22 (by kernel_rfl) rfl #[.agg #[.int .i64 a0_0, .int .i64 a0_1, .int .i64 a0_2, .int .i64 a0_3, .int .i64 a0_4, .int .i64 a0_5, .int .i64 a0_6]] rfl (by (try simp only [List.map_toArray, List.map_cons, List.map_nil]); first | done | rfl | (simp only [List.length_drop, List.length_take]; rfl)) ?_; (with_reducible refine (haversackref09_Right.calls a0_0 a0_1 a0_2 a0_3 a0_4 a0_5 a0_6 false _ A2.out).mono ?_); rintro e w52 ⟨rfl, hb⟩; refine ⟨_, rfl, ?_⟩; have n0_ := Aside0.mk (blk_below (g := gb190) (o := .cells #[.int .i64 a0_0, .int .i64 a0_1, .int .i64 a0_2, .int .i64 a0_3, .int .i64 a0_4, .int .i64 a0_5, .int .i64 a0_6] 23 (0, 0)) (by (with_reducible repeat (first | refine blk_drewN ?_ _ | refine blk_drew ?_ | refine blk_alloc ?_ _)); exact BK190.out) hb); have n1_ := Aside0.mk (below_step (by repeat (first | (with_reducible first | exact HB.out | apply below_alloc | apply pw_below_drewN | apply below_drew1 | refine below_set ?_ GE190.out) | exact HB.out)) hb); clear BK190; clear HB; have BK190 := n0_; have HB := n1_; clear n0_ n1_; (try clear hb); (try clear hb2); (try clear hk); (try clear hi)))
    go_ret
    exact ⟨by first | rfl | (simp [errW_none, errW_some] <;> rfl) | (simp [*, errW_none, errW_some] <;> rfl), by repeat (first | (with_reducible first | exact HB.out | apply below_alloc | apply pw_below_drewN | apply below_drew1 | refine below_set ?_ GE190.out) | exact HB.out)⟩
end Go.Proofs.Ytooknjpdflokkaa.PP
