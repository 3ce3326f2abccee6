-- PRINTED by print.py (a twelfth state) out of the translation. Not trusted: Lean checks it.
import Derived.Test.YtnkibbfpmhgeaaaDoorPPx0
namespace Go.Proofs.YtnkibbfpmhgeaaaDoor.PP
open Go.RowKit Go.Proofs.YtnkibbfpmhgeaaaDoorW.PrintWords Go.Proofs.YtnkibbfpmhgeaaaDoorW.PrintLast Go.Proofs.YtnkibbfpmhgeaaaDoorW.PrintMore
attribute [local go_sem] max2_int min2_int max_two min_two max_three min_three max_four min_four   -- for this text's walks alone
open Go.Proofs.YtnkibbfpmhgeaaaDoor.My
set_option linter.unusedVariables false
set_option linter.unusedSimpArgs false

/-! ### names_Encode: function 11 -/
theorem cell_new (w : World) (k : Nat) (hk : k = w.heap.size) (v : Value) (e : TypeId) : (w.alloc (.cells #[v] e)).cell? ⟨k, 0, none⟩ = some v := by
 subst hk; exact (blk_cell (heap_alloc_new w _) 0).trans rfl
theorem inf8 : (Tryd.prog.info? 5).map (fun i => (i.zero, i.size, i.bytes)) = some (some (.int .u8 0), 1, 1) := by kernel_rfl
set_option maxHeartbeats 1000000 in
set_option maxRecDepth 100000 in
/-- One more byte onto the row. -/
theorem add_ok (g k cap : Nat) (c : UInt8) (bs : List UInt8) (x n : Int) (w : World) (hI : IsBits 47 5 g w bs x n) (hk : w.cell? ⟨k, 0, none⟩ = some (.int .u8 c.toNat)) (hb : bs.length ≤ 1000000000000) :
  Calls Tryd.prog 36 #[.pointer (some ⟨g, 0, none⟩), .slice (some ⟨k, 0, none⟩) 1 cap] w fun e w' => e = .returned (.tuple #[]) ∧ IsBits 47 5 g w' (bs ++ [c]) x n ∧ Kept 5 g w w' := by
 have hl := hI.lt
 obtain ⟨v, h1, h2⟩ := hI
 obtain ⟨i0, hi, hzz⟩ := Option.map_eq_some_iff.1 inf8
 simp only [Prod.mk.injEq] at hzz
 obtain ⟨hz0, hz1, hz2⟩ := hzz
 have hc : w.cell? ⟨g, 0, none⟩ = some v := by simp [World.cell?, h1]
 have H1 := Aside0.mk h1
 have H2 := Aside0.mk h2
 have HK := Aside0.mk hk
 have HI := Aside0.mk hi
 have HZ := Aside0.mk (And.intro hz0 (And.intro hz1 hz2))
 clear h1 h2 hk hi hz0 hz1 hz2
 go_enter Tryd.func36, Tryd.ntmps36
 go_wp2_with (first | ((with_reducible refine gate_dst (N := 10) rfl ?_); refine wpList_append_own _ rfl _ _ 42 rfl (g + 1) 5 i0 (.int .u8 0) 1 1 Tryd.underlying42 HI.out HZ.out.1 HZ.out.2.1 HZ.out.2.2 rfl (by omega) v bs.length (Lib.byteCells bs) rfl H2.out ⟨k, 0, none⟩ 1 cap (Lib.byteCells [c]) rfl rfl ?hn (Lib.byteCells_one _) (by unfold maxLen; omega) (by omega) (by omega) ?_))
 case hn =>
  intro j u hj
  cases j with
  | zero => simp [Lib.byteCells] at hj; subst hj; exact HK.out
  | succ j => simp [Lib.byteCells] at hj
 intro v' w1 h3 h4 h5
 obtain ⟨g2, cap2, e2⟩ : ∃ g2 cap2, v' = .slice (some ⟨g2, 0, none⟩) (bs.length + 1) cap2 := by
  rcases h3.2 with ⟨_, h0⟩ | ⟨g', cap', cur, e, _⟩
  ·
   omega
  ·
   exact ⟨g', cap', e⟩
 subst e2
 have hb0 : w1.heap[g]? = w.heap[g]? := h4.block g hl (fun e' => by rcases ownNe H2.out with h | h; rw [h] at e'; cases e'; exact h e'.symm)
 have hc1 : w1.cell? ⟨g, 0, none⟩ = some v := by simp [World.cell?, hb0, H1.out]
 have hf1 : w1.frozen? ⟨g, 0, none⟩ = false := by simp [World.frozen?, hb0, H1.out]
 have H3 := Aside0.mk h3
 have H4 := Aside0.mk h4
 have HL := Aside0.mk hl
 clear h3 h4 h5 hb0 hc hl
 go_wp2
 go_end0
 refine ⟨rfl, IsBits.put H1.out H2.out H4.out (m := bs.length + 1) (bs' := bs ++ [c]) (by rw [Lib.byteCells_append]; exact H3.out) (by simp), ?_⟩
 exact ((Kept.refl 5 g w).grown (Nat.le_of_lt HL.out) H2.out H4.out).setCell 0 _

def L64 : List UInt8 := [65, 66, 67, 68, 69, 70, 71, 72, 73, 74, 75, 76, 77, 78, 79, 80, 81, 82, 83, 84, 85, 86, 87, 88, 89, 90, 97, 98, 99, 100, 101, 102, 103, 104, 105, 106, 107, 108, 109, 110, 111, 112, 113, 114, 115, 116, 117, 118, 119, 120, 121, 122, 48, 49, 50, 51, 52, 53, 54, 55, 56, 57, 43, 44]
def let64 (i : Nat) : UInt8 := L64.getD i 0
theorem let_at (q : Nat) (hq : q < 64) (h : q < ByteArray.size ⟨L64.toArray⟩) : (⟨L64.toArray⟩ : ByteArray)[q] = let64 q := by
 have hl : q < L64.length := hq
 show L64.toArray[q] = _
 unfold let64
 rw [List.getD_eq_getElem?_getD, List.getElem?_eq_getElem hl]
 simp
/-- The letters of what waits, as long as there are six bits; how many bits wait then. -/
def emitL : Nat → List UInt8 → Nat → Nat → List UInt8 × Nat
 | 0, bs, _, n => (bs, n)
 | k + 1, bs, x, n => if 6 ≤ n then emitL k (bs ++ [let64 ((x / 2 ^ (n - 6)) % 64)]) x (n - 6) else (bs, n)
theorem mask_is (x m : Nat) (hx : x < 4294967296) (hm : m < 6) : bits .and .u32 (x : Int) (IntKind.u32.wrap (IntKind.u32.wrap (2 ^ m) - 1)) = (x : Int) % 2 ^ m := by
 have e : IntKind.u32.wrap (IntKind.u32.wrap (2 ^ m) - 1) = ((2 ^ m - 1 : Nat) : Int) := by
  rw [IntKind.wrap_u32', IntKind.wrap_u32']
  have : m = 0 ∨ m = 1 ∨ m = 2 ∨ m = 3 ∨ m = 4 ∨ m = 5 := by omega
  rcases this with rfl | rfl | rfl | rfl | rfl | rfl <;> rfl
 have e2 : 2 ^ m - 1 < 4294967296 := Nat.lt_of_le_of_lt (Nat.sub_le _ _) (Nat.pow_lt_pow_right (by omega) (show m < 32 by omega))
 rw [e, u32_and_nat _ _ hx e2, Nat.and_two_pow_sub_one_eq_mod]
 simp
def unitL (s : List UInt8 × Nat × Nat) (u : Nat) : List UInt8 × Nat × Nat :=
 let x1 := s.2.1 * 65536 % 4294967296 ||| u
 let r := emitL 10 s.1 x1 (s.2.2 + 16)
 (r.1, x1 % 2 ^ r.2, r.2)
set_option maxHeartbeats 2000000 in
set_option maxRecDepth 100000 in
theorem unit_ok (g : Nat) (u : Nat) (bs : List UInt8) (x n : Nat) (w : World) (hI : IsBits 47 5 g w bs x n) (hx : x < 4294967296) (hn : n < 6) (hu : u < 4294967296) (hb : bs.length ≤ 100000000000) :
  Calls Tryd.prog 54 #[.pointer (some ⟨g, 0, none⟩), .int .u32 u] w fun e w' => e = .returned (.tuple #[]) ∧ IsBits 47 5 g w' (unitL (bs, x, n) u).1 (unitL (bs, x, n) u).2.1 (unitL (bs, x, n) u).2.2 ∧ Kept 5 g w w' := by
 have hc1 := hI.cell1
 have hc2 := hI.cell2
 have hf1 := hI.frozen 1
 have hf2 := hI.frozen 2
 have HI := Aside0.mk hI
 clear hI
 go_enter Tryd.func54, Tryd.ntmps54
 have hx1 : bits .or .u32 ((x : Int) * 65536 % 4294967296) (u : Int) = (((x * 65536 % 4294967296 ||| u : Nat)) : Int) := by
  rw [← u32_or_nat _ _ (Nat.mod_lt _ (by omega)) hu]
  congr 1
 obtain ⟨x1, hX⟩ : ∃ x1, x1 = x * 65536 % 4294967296 ||| u := ⟨_, rfl⟩
 rw [← hX] at hx1
 have hx1l : x1 < 4294967296 := by rw [hX]; exact Nat.or_lt_two_pow (n := 32) (Nat.mod_lt _ (by omega)) hu
 obtain ⟨bE, mE, hE⟩ : ∃ bE mE, emitL 10 bs x1 (n + 16) = (bE, mE) := ⟨_, _, rfl⟩
 have HU : unitL (bs, x, n) u = (bE, x1 % 2 ^ mE, mE) := by unfold unitL; simp only [← hX, hE]
 rw [HU]
 have HX := Aside0.mk hX
 clear hX HU
 go_wp2_with fail
 go_loopg [] 10 (fun kq wr => ∃ (bs' : List UInt8) (m : Nat), Aside0 (emitL kq bs' x1 m = (bE, mE)) ∧ Aside0 (IsBits 47 5 g wr bs' x1 m) ∧ Aside0 (Kept 5 g w wr) ∧ m < 6 * kq ∧ m ≤ 21 ∧ bs'.length + kq ≤ 100000000010)
 case atStart =>
  refine ⟨bs, n + 16, ⟨hE⟩, ⟨?_⟩, ⟨?_⟩, by omega, by omega, by omega⟩
  ·
   exact (HI.out.setX (x1 : Int)).setN _
  ·
   exact ((Kept.refl _ g w).setCell 1 _).setCell 2 _
 case round =>
  obtain ⟨bs', m, HE, HJ, HKp, hm, hm2, hl⟩ := hrel
  clear hc1 hc2 hf1 hf2 hx1 hE
  cases gk with
  | zero => omega
  | succ k =>
   have hc1 := HJ.out.cell1
   have hc2 := HJ.out.cell2
   have hf1 := HJ.out.frozen 1
   have hf2 := HJ.out.frozen 2
   by_cases h6 : 6 ≤ m
   ·
    have hi6 : (6 : Int) ≤ (m : Int) := by omega
    have hs6 : ((m : Int) - 6) % 4294967296 = ((m - 6 : Nat) : Int) := by omega
    go_wp2_with fail
    have hJ3 := HJ.out.setN ((m : Int) - 6)
    have HJ3 := Aside0.mk hJ3.drew
    have HK3 := Aside0.mk (HKp.out.setCell 2 (.int .u32 ((m : Int) - 6))).drew
    have hc1' := hJ3.drew.cell1
    have hc2' := hJ3.drew.cell2
    clear hJ3 hc1 hc2 hf1 hf2 HJ HKp
    obtain ⟨q, hq1⟩ : ∃ q, q = x1 / 2 ^ (m - 6) % 64 := ⟨_, rfl⟩
    have hq : q < 64 := by omega
    have hq0 : bits .and .u32 ((x1 : Int) / 2 ^ ((m : Int) - 6).toNat) 63 = (q : Int) := by
     have e1 : ((m : Int) - 6).toNat = m - 6 := by omega
     have e2 : ((x1 : Int) / 2 ^ (m - 6)) = ((x1 / 2 ^ (m - 6) : Nat) : Int) := by simp
     have e3 : x1 / 2 ^ (m - 6) < 4294967296 := Nat.lt_of_le_of_lt (Nat.div_le_self _ _) hx1l
     rw [e1, e2, show (63 : Int) = ((63 : Nat) : Int) from rfl, u32_and_nat _ _ e3 (by omega), hq1]
     congr 1
     exact Nat.and_two_pow_sub_one_eq_mod (x1 / 2 ^ (m - 6)) 6
    have hq2 : (q : Int) < 64 := by omega
    have HQ := Aside0.mk hq1
    clear hq1
    refine start_ (n := 16) (S := fun w' => w'.cell? ⟨g, 1, none⟩ = some (.int .u32 x1) ∧ w'.cell? ⟨g, 2, none⟩ = some (.int .u32 ((m : Int) - 6))) (ds := [15]) #[false, false, false, false, false, false, false, false, false, false, false, false, false, false, false, false] (by kernel_rfl) rfl rfl ⟨hc1', hc2'⟩ (fun hHeld => ?_)
    generalize (wr.setCell ⟨g, 2, none⟩ (.int .u32 ((m : Int) - 6))).drew = w3 at HJ3 HK3 hc1' hc2' hHeld ⊢
    refine pure_ (i := 0) (N := some 33) (v := ?_) (a' := ?_) #[true, false, false, false, false, false, false, false, false, false, false, false, false, false, false, false] rfl rfl (by kernel_rfl) (fun _ _ _ h => h) (Or.inl ⟨by rfl, ?_⟩) ?_ ?_
    rotate_left
    ·
     intro w'
     go_simp
     with_reducible rfl
    rotate_left
    ·
     simp only [Act.put, List.setIfInBounds_toArray, List.set_cons_zero, List.set_cons_succ, i64_w, i32_w]
     rfl
    refine pure_ (i := 1) (N := some 34) (v := ?_) (a' := ?_) #[true, true, false, false, false, false, false, false, false, false, false, false, false, false, false, false] rfl rfl (by kernel_rfl) (fun _ _ _ h => h) (Or.inl ⟨by rfl, ?_⟩) ?_ ?_
    rotate_left
    ·
     intro w'
     go_simp
     with_reducible rfl
    rotate_left
    ·
     simp only [Act.put, List.setIfInBounds_toArray, List.set_cons_zero, List.set_cons_succ, i64_w, i32_w]
     rfl
    refine pure_ (i := 2) (N := some 35) (v := ?_) (a' := ?_) #[true, true, true, false, false, false, false, false, false, false, false, false, false, false, false, false] rfl rfl (by kernel_rfl) (fun _ _ _ h => h) (Or.inl ⟨by rfl, ?_⟩) ?_ ?_
    rotate_left
    ·
     intro w'
     go_simp
     with_reducible rfl
    rotate_left
    ·
     simp only [Act.put, List.setIfInBounds_toArray, List.set_cons_zero, List.set_cons_succ, i64_w, i32_w]
     rfl
    refine pure_ (i := 3) (N := some 36) (v := ?_) (a' := ?_) #[true, true, true, true, false, false, false, false, false, false, false, false, false, false, false, false] rfl rfl (by kernel_rfl) (fun _ _ _ h => h) (Or.inl ⟨by rfl, ?_⟩) ?_ ?_
    rotate_left
    ·
     intro w'
     go_simp
     with_reducible rfl
    rotate_left
    ·
     simp only [Act.put, List.setIfInBounds_toArray, List.set_cons_zero, List.set_cons_succ, i64_w, i32_w]
     rfl
    refine pure_ (i := 4) (N := some 37) (v := ?_) (a' := ?_) #[true, true, true, true, true, false, false, false, false, false, false, false, false, false, false, false] rfl rfl (by kernel_rfl) (fun _ _ _ h => h) (Or.inl ⟨by rfl, ?_⟩) ?_ ?_
    rotate_left
    ·
     intro w'
     go_simp
     with_reducible rfl
    rotate_left
    ·
     simp only [Act.put, List.setIfInBounds_toArray, List.set_cons_zero, List.set_cons_succ, i64_w, i32_w]
     rfl
    refine pure_ (i := 5) (N := some 38) (v := ?_) (a' := ?_) #[true, true, true, true, true, true, false, false, false, false, false, false, false, false, false, false] rfl rfl (by kernel_rfl) (fun _ _ _ h => h) (Or.inl ⟨by rfl, ?_⟩) ?_ ?_
    rotate_left
    ·
     intro w'
     go_simp
     with_reducible rfl
    rotate_left
    ·
     simp only [Act.put, List.setIfInBounds_toArray, List.set_cons_zero, List.set_cons_succ, i64_w, i32_w]
     rfl
    refine take_ (i := 6) (N := some 39) (v := ?_) (a' := ?_) #[true, true, true, true, true, true, true, false, false, false, false, false, false, false, false, false] rfl rfl (by kernel_rfl) (fun _ _ _ h => h) (Or.inl ⟨by rfl, ?_⟩) hHeld ?_ ?_
    rotate_left
    ·
     rintro w' ⟨s0, s1⟩
     go_simp
     with_reducible rfl
    rotate_left
    ·
     simp only [Act.put, List.setIfInBounds_toArray, List.set_cons_zero, List.set_cons_succ, i64_w, i32_w]
     rfl
    refine pure_ (i := 7) (N := some 40) (v := ?_) (a' := ?_) #[true, true, true, true, true, true, true, true, false, false, false, false, false, false, false, false] rfl rfl (by kernel_rfl) (fun _ _ _ h => h) (Or.inl ⟨by rfl, ?_⟩) ?_ ?_
    rotate_left
    ·
     intro w'
     go_simp
     with_reducible rfl
    rotate_left
    ·
     simp only [Act.put, List.setIfInBounds_toArray, List.set_cons_zero, List.set_cons_succ, i64_w, i32_w]
     rfl
    refine pure_ (i := 8) (N := some 41) (v := ?_) (a' := ?_) #[true, true, true, true, true, true, true, true, true, false, false, false, false, false, false, false] rfl rfl (by kernel_rfl) (fun _ _ _ h => h) (Or.inl ⟨by rfl, ?_⟩) ?_ ?_
    rotate_left
    ·
     intro w'
     go_simp
     with_reducible rfl
    rotate_left
    ·
     simp only [Act.put, List.setIfInBounds_toArray, List.set_cons_zero, List.set_cons_succ, i64_w, i32_w]
     rfl
    refine pure_ (i := 9) (N := some 42) (v := ?_) (a' := ?_) #[true, true, true, true, true, true, true, true, true, true, false, false, false, false, false, false] rfl rfl (by kernel_rfl) (fun _ _ _ h => h) (Or.inl ⟨by rfl, ?_⟩) ?_ ?_
    rotate_left
    ·
     intro w'
     go_simp
     with_reducible rfl
    rotate_left
    ·
     simp only [Act.put, List.setIfInBounds_toArray, List.set_cons_zero, List.set_cons_succ, i64_w, i32_w]
     rfl
    refine take_ (i := 10) (N := some 43) (v := ?_) (a' := ?_) #[true, true, true, true, true, true, true, true, true, true, true, false, false, false, false, false] rfl rfl (by kernel_rfl) (fun _ _ _ h => h) (Or.inl ⟨by rfl, ?_⟩) hHeld ?_ ?_
    rotate_left
    ·
     rintro w' ⟨s0, s1⟩
     go_simp
     with_reducible rfl
    rotate_left
    ·
     simp only [Act.put, List.setIfInBounds_toArray, List.set_cons_zero, List.set_cons_succ, i64_w, i32_w]
     rfl
    refine pure_ (i := 11) (N := some 44) (v := ?_) (a' := ?_) #[true, true, true, true, true, true, true, true, true, true, true, true, false, false, false, false] rfl rfl (by kernel_rfl) (fun _ _ _ h => h) (Or.inl ⟨by rfl, ?_⟩) ?_ ?_
    rotate_left
    ·
     intro w'
     go_simp
     with_reducible rfl
    rotate_left
    ·
     simp only [Act.put, List.setIfInBounds_toArray, List.set_cons_zero, List.set_cons_succ, i64_w, i32_w]
     rfl
    refine pure_ (i := 12) (N := some 45) (v := .int .u32 (q : Int)) (a' := ?_) #[true, true, true, true, true, true, true, true, true, true, true, true, true, false, false, false] rfl rfl (by kernel_rfl) (fun _ _ _ h => h) (Or.inl ⟨by rfl, ?_⟩) ?_ ?_
    ·
     intro w'
     first | (go_simp; done) | (go_simp; rw [hq0]; done)
    rotate_left
    ·
     first | (simp only [Act.put, List.setIfInBounds_toArray, List.set_cons_zero, List.set_cons_succ, i64_w, i32_w]; done) | (simp only [Act.put, List.setIfInBounds_toArray, List.set_cons_zero, List.set_cons_succ, i64_w, i32_w]; rfl)
    refine pure_ (i := 13) (N := some 46) (v := .int .u8 ((let64 q).toNat)) (a' := ?_) #[true, true, true, true, true, true, true, true, true, true, true, true, true, true, false, false] rfl rfl (by kernel_rfl) (fun _ _ _ h => h) (Or.inl ⟨by rfl, ?_⟩) ?_ ?_
    ·
     intro w'
     go_simp
     (try rw [dif_pos hq2])
     rw [← let_at q hq hq]
     rfl
    rotate_left
    ·
     first | (simp only [Act.put, List.setIfInBounds_toArray, List.set_cons_zero, List.set_cons_succ, i64_w, i32_w]; done) | (simp only [Act.put, List.setIfInBounds_toArray, List.set_cons_zero, List.set_cons_succ, i64_w, i32_w]; rfl)
    refine one_ (i := 14) (N := some 47) #[true, true, true, true, true, true, true, true, true, true, true, true, true, true, true, false] rfl rfl (by kernel_rfl) (by decide) (fun K hK => ?_)
    refine value_ (v := .slice (some ⟨w3.heap.size, 0, none⟩) 1 1) (w1 := w3.alloc (.cells #[.int .u8 ((let64 q).toNat)] 5)) (by rfl) rfl ?_ ?_
    ·
     go_simp
    refine hK.out _ _ ⟨?_, ?_⟩ (fun hHeld => ?_)
    ·
     exact (HJ3.out.alloc _).cell1
    ·
     exact (HJ3.out.alloc _).cell2
    clear hK K
    refine norm_ (a' := ?_) ?_ ?_
    rotate_left
    ·
     show Act.put _ (some 47) _ = _
     simp only [Act.put, List.setIfInBounds_toArray, List.set_cons_zero, List.set_cons_succ, i64_w, i32_w]
     rfl
    refine last_ (i := 15) (N := some 48) #[true, true, true, true, true, true, true, true, true, true, true, true, true, true, true, true] rfl rfl (by kernel_rfl) (by decide) (fun K hK => ?_)
    refine goes_ Tryd.func36 (by kernel_rfl) rfl #[.pointer (some ⟨g, 0, none⟩), .slice (some ⟨w3.heap.size, 0, none⟩) 1 1] (by rfl) rfl rfl (by (try simp only [List.map_toArray, List.map_cons, List.map_nil]); first | done | rfl) ?_
    refine (add_ok g w3.heap.size 1 (let64 q) bs' _ _ _ (HJ3.out.alloc _) ((blk_cell (heap_alloc_new w3 _) 0).trans rfl) (by omega)).mono ?_
    rintro e w4 ⟨rfl, hI4, hK4⟩
    refine ⟨_, rfl, ?_⟩
    refine hK.out _ _ ?_
    clear hK K
    refine norm_ (a' := ?_) ?_ ?_
    rotate_left
    ·
     show Act.put _ (some 48) _ = _
     simp only [Act.put, List.setIfInBounds_toArray, List.set_cons_zero, List.set_cons_succ, i64_w, i32_w]
     rfl
    refine done_ (by kernel_rfl) ?_
    have hE := HE.out
    simp only [emitL] at hE
    rw [if_pos h6, ← HQ.out] at hE
    have HE2 := Aside0.mk hE
    have HI4 := Aside0.mk hI4
    have HK4 := Aside0.mk (HK3.out.trans ((Kept.refl _ g w3).alloc (Nat.le_of_lt HJ3.out.lt) _ |>.trans hK4))
    clear hI4 hK4 hE HE HQ hHeld
    go_wp2
    go_roundg k
    case measure => omega
    case rel =>
     refine ⟨_, m - 6, HE2, ⟨?_⟩, HK4, by omega, by omega, by rw [List.length_append]; simp; omega⟩
     have e : ((m - 6 : Nat) : Int) = (m : Int) - 6 := by omega
     rw [e]; exact HI4.out
   ·
    have hi6 : ¬ (6 : Int) ≤ (m : Int) := by omega
    have hE := HE.out
    simp only [emitL] at hE
    rw [if_neg h6] at hE
    obtain ⟨rfl, rfl⟩ := Prod.mk.inj hE
    clear hE HE
    go_wp2_with fail
    have hJ3 := HJ.out.drew
    have HJ3 := Aside0.mk hJ3
    have HK3 := Aside0.mk HKp.out.drew
    have hc1' := hJ3.cell1
    have hc2' := hJ3.cell2
    have hf1' := hJ3.frozen 1
    clear hJ3 hc1 hc2 hf1 hf2 HJ HKp
    have hm6 : m < 6 := by omega
    have hmask := mask_is x1 m hx1l hm6
    refine start_ (n := 14) (S := fun w' => w'.cell? ⟨g, 1, none⟩ = some (.int .u32 x1) ∧ w'.cell? ⟨g, 2, none⟩ = some (.int .u32 (m : Int))) (ds := [13]) #[false, false, false, false, false, false, false, false, false, false, false, false, false, false] (by kernel_rfl) rfl rfl ⟨hc1', hc2'⟩ (fun hHeld => ?_)
    generalize wr.drew = w3 at HJ3 HK3 hc1' hc2' hf1' hHeld ⊢
    refine pure_ (i := 0) (N := some 49) (v := ?_) (a' := ?_) #[true, false, false, false, false, false, false, false, false, false, false, false, false, false] rfl rfl (by kernel_rfl) (fun _ _ _ h => h) (Or.inl ⟨by rfl, ?_⟩) ?_ ?_
    rotate_left
    ·
     intro w'
     go_simp
     with_reducible rfl
    rotate_left
    ·
     simp only [Act.put, List.setIfInBounds_toArray, List.set_cons_zero, List.set_cons_succ, i64_w, i32_w]
     rfl
    refine pure_ (i := 1) (N := some 50) (v := ?_) (a' := ?_) #[true, true, false, false, false, false, false, false, false, false, false, false, false, false] rfl rfl (by kernel_rfl) (fun _ _ _ h => h) (Or.inl ⟨by rfl, ?_⟩) ?_ ?_
    rotate_left
    ·
     intro w'
     go_simp
     with_reducible rfl
    rotate_left
    ·
     simp only [Act.put, List.setIfInBounds_toArray, List.set_cons_zero, List.set_cons_succ, i64_w, i32_w]
     rfl
    refine pure_ (i := 2) (N := some 51) (v := ?_) (a' := ?_) #[true, true, true, false, false, false, false, false, false, false, false, false, false, false] rfl rfl (by kernel_rfl) (fun _ _ _ h => h) (Or.inl ⟨by rfl, ?_⟩) ?_ ?_
    rotate_left
    ·
     intro w'
     go_simp
     with_reducible rfl
    rotate_left
    ·
     simp only [Act.put, List.setIfInBounds_toArray, List.set_cons_zero, List.set_cons_succ, i64_w, i32_w]
     rfl
    refine take_ (i := 3) (N := some 52) (v := ?_) (a' := ?_) #[true, true, true, true, false, false, false, false, false, false, false, false, false, false] rfl rfl (by kernel_rfl) (fun _ _ _ h => h) (Or.inl ⟨by rfl, ?_⟩) hHeld ?_ ?_
    rotate_left
    ·
     rintro w' ⟨s0, s1⟩
     go_simp
     with_reducible rfl
    rotate_left
    ·
     simp only [Act.put, List.setIfInBounds_toArray, List.set_cons_zero, List.set_cons_succ, i64_w, i32_w]
     rfl
    refine pure_ (i := 4) (N := some 53) (v := ?_) (a' := ?_) #[true, true, true, true, true, false, false, false, false, false, false, false, false, false] rfl rfl (by kernel_rfl) (fun _ _ _ h => h) (Or.inl ⟨by rfl, ?_⟩) ?_ ?_
    rotate_left
    ·
     intro w'
     go_simp
     with_reducible rfl
    rotate_left
    ·
     simp only [Act.put, List.setIfInBounds_toArray, List.set_cons_zero, List.set_cons_succ, i64_w, i32_w]
     rfl
    refine pure_ (i := 5) (N := some 54) (v := ?_) (a' := ?_) #[true, true, true, true, true, true, false, false, false, false, false, false, false, false] rfl rfl (by kernel_rfl) (fun _ _ _ h => h) (Or.inl ⟨by rfl, ?_⟩) ?_ ?_
    rotate_left
    ·
     intro w'
     go_simp
     with_reducible rfl
    rotate_left
    ·
     simp only [Act.put, List.setIfInBounds_toArray, List.set_cons_zero, List.set_cons_succ, i64_w, i32_w]
     rfl
    refine pure_ (i := 6) (N := some 55) (v := ?_) (a' := ?_) #[true, true, true, true, true, true, true, false, false, false, false, false, false, false] rfl rfl (by kernel_rfl) (fun _ _ _ h => h) (Or.inl ⟨by rfl, ?_⟩) ?_ ?_
    rotate_left
    ·
     intro w'
     go_simp
     with_reducible rfl
    rotate_left
    ·
     simp only [Act.put, List.setIfInBounds_toArray, List.set_cons_zero, List.set_cons_succ, i64_w, i32_w]
     rfl
    refine take_ (i := 7) (N := some 56) (v := ?_) (a' := ?_) #[true, true, true, true, true, true, true, true, false, false, false, false, false, false] rfl rfl (by kernel_rfl) (fun _ _ _ h => h) (Or.inl ⟨by rfl, ?_⟩) hHeld ?_ ?_
    rotate_left
    ·
     rintro w' ⟨s0, s1⟩
     go_simp
     with_reducible rfl
    rotate_left
    ·
     simp only [Act.put, List.setIfInBounds_toArray, List.set_cons_zero, List.set_cons_succ, i64_w, i32_w]
     rfl
    refine pure_ (i := 8) (N := some 57) (v := ?_) (a' := ?_) #[true, true, true, true, true, true, true, true, true, false, false, false, false, false] rfl rfl (by kernel_rfl) (fun _ _ _ h => h) (Or.inl ⟨by rfl, ?_⟩) ?_ ?_
    rotate_left
    ·
     intro w'
     go_simp
     with_reducible rfl
    rotate_left
    ·
     simp only [Act.put, List.setIfInBounds_toArray, List.set_cons_zero, List.set_cons_succ, i64_w, i32_w]
     rfl
    refine pure_ (i := 9) (N := some 58) (v := ?_) (a' := ?_) #[true, true, true, true, true, true, true, true, true, true, false, false, false, false] rfl rfl (by kernel_rfl) (fun _ _ _ h => h) (Or.inl ⟨by rfl, ?_⟩) ?_ ?_
    rotate_left
    ·
     intro w'
     go_simp
     with_reducible rfl
    rotate_left
    ·
     simp only [Act.put, List.setIfInBounds_toArray, List.set_cons_zero, List.set_cons_succ, i64_w, i32_w]
     rfl
    refine pure_ (i := 10) (N := some 59) (v := .int .u32 ((x1 % 2 ^ m : Nat) : Int)) (a' := ?_) #[true, true, true, true, true, true, true, true, true, true, true, false, false, false] rfl rfl (by kernel_rfl) (fun _ _ _ h => h) (Or.inl ⟨by rfl, ?_⟩) ?_ ?_
    ·
     intro w'
     first | (go_simp; done) | (go_simp; rw [hmask]; done) | (go_simp; exact hmask)
    rotate_left
    ·
     first | (simp only [Act.put, List.setIfInBounds_toArray, List.set_cons_zero, List.set_cons_succ, i64_w, i32_w]; done) | (simp only [Act.put, List.setIfInBounds_toArray, List.set_cons_zero, List.set_cons_succ, i64_w, i32_w]; rfl)
    refine pure_ (i := 11) (N := some 60) (v := ?_) (a' := ?_) #[true, true, true, true, true, true, true, true, true, true, true, true, false, false] rfl rfl (by kernel_rfl) (fun _ _ _ h => h) (Or.inl ⟨by rfl, ?_⟩) ?_ ?_
    rotate_left
    ·
     intro w'
     go_simp
     with_reducible rfl
    rotate_left
    ·
     simp only [Act.put, List.setIfInBounds_toArray, List.set_cons_zero, List.set_cons_succ, i64_w, i32_w]
     rfl
    refine pure_ (i := 12) (N := some 61) (v := ?_) (a' := ?_) #[true, true, true, true, true, true, true, true, true, true, true, true, true, false] rfl rfl (by kernel_rfl) (fun _ _ _ h => h) (Or.inl ⟨by rfl, ?_⟩) ?_ ?_
    rotate_left
    ·
     intro w'
     go_simp
     with_reducible rfl
    rotate_left
    ·
     simp only [Act.put, List.setIfInBounds_toArray, List.set_cons_zero, List.set_cons_succ, i64_w, i32_w]
     rfl
    refine last_ (i := 13) (N := none) #[true, true, true, true, true, true, true, true, true, true, true, true, true, true] rfl rfl (by kernel_rfl) (by decide) (fun K hK => ?_)
    refine skip_ (w1 := ?_) (by rfl) rfl ?_ ?_
    rotate_left
    ·
     go_simp
     rfl
    refine hK.out _ _ ?_
    clear hK K
    refine done_ (by kernel_rfl) ?_
    go_end0
    exact ⟨rfl, HJ3.out.setX _, HK3.out.setCell 1 _⟩

def endL (s : List UInt8 × Nat × Nat) : List UInt8 := (if 0 < s.2.2 then s.1 ++ [let64 (s.2.1 * 2 ^ (6 - s.2.2) % 4294967296 % 64)] else s.1) ++ [45]
set_option maxHeartbeats 2000000 in
set_option maxRecDepth 100000 in
theorem end_ok (g : Nat) (bs : List UInt8) (x n : Nat) (w : World) (hI : IsBits 47 5 g w bs x n) (hx : x < 4294967296) (hn : n < 6) (hb : bs.length ≤ 100000000000) :
  Calls Tryd.prog 35 #[.pointer (some ⟨g, 0, none⟩)] w fun e w' => e = .returned (.tuple #[]) ∧ IsBits 47 5 g w' (endL (bs, x, n)) 0 0 ∧ Kept 5 g w w' := by
 have tail : ∀ (bs1 : List UInt8) (w3 : World), Aside0 (IsBits 47 5 g w3 bs1 x n) → Aside0 (Kept 5 g w w3) → bs1.length ≤ 100000000001 → bs1 ++ [45] = endL (bs, x, n) → True := fun _ _ _ _ _ _ => trivial
 have hc1 := hI.cell1
 have hc2 := hI.cell2
 have hf1 := hI.frozen 1
 have hf2 := hI.frozen 2
 have HI := Aside0.mk hI
 clear hI tail
 go_enter Tryd.func35, Tryd.ntmps35
 by_cases h0 : 0 < n
 ·
  have hi0 : (0 : Int) < (n : Int) := by omega
  have hd0 : decide ((0 : Int) < (n : Int)) = true := decide_eq_true hi0
  go_wp2_with fail
  have HJ3 := Aside0.mk HI.out.drew
  have HK3 := Aside0.mk (Kept.refl 5 g w).drew
  have hc1' := HJ3.out.cell1
  have hc2' := HJ3.out.cell2
  clear hc1 hc2 hf1 hf2
  obtain ⟨q, hq1⟩ : ∃ q, q = x * 2 ^ (6 - n) % 4294967296 % 64 := ⟨_, rfl⟩
  have hq : q < 64 := by omega
  have hq2 : (q : Int) < 64 := by omega
  have hq0 : bits .and .u32 (IntKind.u32.wrap ((x : Int) * 2 ^ min (IntKind.u32.wrap (6 - (n : Int))).toNat 32)) 63 = (q : Int) := by
   have e1 : min (IntKind.u32.wrap (6 - (n : Int))).toNat 32 = 6 - n := by rw [IntKind.wrap_u32']; omega
   have e2 : IntKind.u32.wrap ((x : Int) * 2 ^ (6 - n)) = ((x * 2 ^ (6 - n) % 4294967296 : Nat) : Int) := by rw [IntKind.wrap_u32']; simp
   rw [e1, e2, show (63 : Int) = ((63 : Nat) : Int) from rfl, u32_and_nat _ _ (Nat.mod_lt _ (by omega)) (by omega), hq1]
   congr 1
   exact Nat.and_two_pow_sub_one_eq_mod (x * 2 ^ (6 - n) % 4294967296) 6
  have HQ := Aside0.mk hq1
  clear hq1
  refine start_ (n := 17) (S := fun w' => w'.cell? ⟨g, 1, none⟩ = some (.int .u32 (x : Int)) ∧ w'.cell? ⟨g, 2, none⟩ = some (.int .u32 (n : Int))) (ds := [16]) #[false, false, false, false, false, false, false, false, false, false, false, false, false, false, false, false, false] (by kernel_rfl) rfl rfl ⟨hc1', hc2'⟩ (fun hHeld => ?_)
  generalize w.drew = w3 at HJ3 HK3 hc1' hc2' hHeld ⊢
  refine pure_ (i := 0) (N := some 7) (v := ?_) (a' := ?_) #[true, false, false, false, false, false, false, false, false, false, false, false, false, false, false, false, false] rfl rfl (by kernel_rfl) (fun _ _ _ h => h) (Or.inl ⟨by rfl, ?_⟩) ?_ ?_
  rotate_left
  ·
   intro w'
   go_simp
   with_reducible rfl
  rotate_left
  ·
   simp only [Act.put, List.setIfInBounds_toArray, List.set_cons_zero, List.set_cons_succ, i64_w, i32_w]
   rfl
  refine pure_ (i := 1) (N := some 8) (v := ?_) (a' := ?_) #[true, true, false, false, false, false, false, false, false, false, false, false, false, false, false, false, false] rfl rfl (by kernel_rfl) (fun _ _ _ h => h) (Or.inl ⟨by rfl, ?_⟩) ?_ ?_
  rotate_left
  ·
   intro w'
   go_simp
   with_reducible rfl
  rotate_left
  ·
   simp only [Act.put, List.setIfInBounds_toArray, List.set_cons_zero, List.set_cons_succ, i64_w, i32_w]
   rfl
  refine pure_ (i := 2) (N := some 9) (v := ?_) (a' := ?_) #[true, true, true, false, false, false, false, false, false, false, false, false, false, false, false, false, false] rfl rfl (by kernel_rfl) (fun _ _ _ h => h) (Or.inl ⟨by rfl, ?_⟩) ?_ ?_
  rotate_left
  ·
   intro w'
   go_simp
   with_reducible rfl
  rotate_left
  ·
   simp only [Act.put, List.setIfInBounds_toArray, List.set_cons_zero, List.set_cons_succ, i64_w, i32_w]
   rfl
  refine pure_ (i := 3) (N := some 10) (v := ?_) (a' := ?_) #[true, true, true, true, false, false, false, false, false, false, false, false, false, false, false, false, false] rfl rfl (by kernel_rfl) (fun _ _ _ h => h) (Or.inl ⟨by rfl, ?_⟩) ?_ ?_
  rotate_left
  ·
   intro w'
   go_simp
   with_reducible rfl
  rotate_left
  ·
   simp only [Act.put, List.setIfInBounds_toArray, List.set_cons_zero, List.set_cons_succ, i64_w, i32_w]
   rfl
  refine pure_ (i := 4) (N := some 11) (v := ?_) (a' := ?_) #[true, true, true, true, true, false, false, false, false, false, false, false, false, false, false, false, false] rfl rfl (by kernel_rfl) (fun _ _ _ h => h) (Or.inl ⟨by rfl, ?_⟩) ?_ ?_
  rotate_left
  ·
   intro w'
   go_simp
   with_reducible rfl
  rotate_left
  ·
   simp only [Act.put, List.setIfInBounds_toArray, List.set_cons_zero, List.set_cons_succ, i64_w, i32_w]
   rfl
  refine pure_ (i := 5) (N := some 12) (v := ?_) (a' := ?_) #[true, true, true, true, true, true, false, false, false, false, false, false, false, false, false, false, false] rfl rfl (by kernel_rfl) (fun _ _ _ h => h) (Or.inl ⟨by rfl, ?_⟩) ?_ ?_
  rotate_left
  ·
   intro w'
   go_simp
   with_reducible rfl
  rotate_left
  ·
   simp only [Act.put, List.setIfInBounds_toArray, List.set_cons_zero, List.set_cons_succ, i64_w, i32_w]
   rfl
  refine take_ (i := 6) (N := some 13) (v := ?_) (a' := ?_) #[true, true, true, true, true, true, true, false, false, false, false, false, false, false, false, false, false] rfl rfl (by kernel_rfl) (fun _ _ _ h => h) (Or.inl ⟨by rfl, ?_⟩) hHeld ?_ ?_
  rotate_left
  ·
   rintro w' ⟨s0, s1⟩
   go_simp
   with_reducible rfl
  rotate_left
  ·
   simp only [Act.put, List.setIfInBounds_toArray, List.set_cons_zero, List.set_cons_succ, i64_w, i32_w]
   rfl
  refine pure_ (i := 7) (N := some 14) (v := ?_) (a' := ?_) #[true, true, true, true, true, true, true, true, false, false, false, false, false, false, false, false, false] rfl rfl (by kernel_rfl) (fun _ _ _ h => h) (Or.inl ⟨by rfl, ?_⟩) ?_ ?_
  rotate_left
  ·
   intro w'
   go_simp
   with_reducible rfl
  rotate_left
  ·
   simp only [Act.put, List.setIfInBounds_toArray, List.set_cons_zero, List.set_cons_succ, i64_w, i32_w]
   rfl
  refine pure_ (i := 8) (N := some 15) (v := ?_) (a' := ?_) #[true, true, true, true, true, true, true, true, true, false, false, false, false, false, false, false, false] rfl rfl (by kernel_rfl) (fun _ _ _ h => h) (Or.inl ⟨by rfl, ?_⟩) ?_ ?_
  rotate_left
  ·
   intro w'
   go_simp
   with_reducible rfl
  rotate_left
  ·
   simp only [Act.put, List.setIfInBounds_toArray, List.set_cons_zero, List.set_cons_succ, i64_w, i32_w]
   rfl
  refine pure_ (i := 9) (N := some 16) (v := ?_) (a' := ?_) #[true, true, true, true, true, true, true, true, true, true, false, false, false, false, false, false, false] rfl rfl (by kernel_rfl) (fun _ _ _ h => h) (Or.inl ⟨by rfl, ?_⟩) ?_ ?_
  rotate_left
  ·
   intro w'
   go_simp
   with_reducible rfl
  rotate_left
  ·
   simp only [Act.put, List.setIfInBounds_toArray, List.set_cons_zero, List.set_cons_succ, i64_w, i32_w]
   rfl
  refine take_ (i := 10) (N := some 17) (v := ?_) (a' := ?_) #[true, true, true, true, true, true, true, true, true, true, true, false, false, false, false, false, false] rfl rfl (by kernel_rfl) (fun _ _ _ h => h) (Or.inl ⟨by rfl, ?_⟩) hHeld ?_ ?_
  rotate_left
  ·
   rintro w' ⟨s0, s1⟩
   go_simp
   with_reducible rfl
  rotate_left
  ·
   simp only [Act.put, List.setIfInBounds_toArray, List.set_cons_zero, List.set_cons_succ, i64_w, i32_w]
   rfl
  refine pure_ (i := 11) (N := some 18) (v := ?_) (a' := ?_) #[true, true, true, true, true, true, true, true, true, true, true, true, false, false, false, false, false] rfl rfl (by kernel_rfl) (fun _ _ _ h => h) (Or.inl ⟨by rfl, ?_⟩) ?_ ?_
  rotate_left
  ·
   intro w'
   go_simp
   with_reducible rfl
  rotate_left
  ·
   simp only [Act.put, List.setIfInBounds_toArray, List.set_cons_zero, List.set_cons_succ, i64_w, i32_w]
   rfl
  refine pure_ (i := 12) (N := some 19) (v := ?_) (a' := ?_) #[true, true, true, true, true, true, true, true, true, true, true, true, true, false, false, false, false] rfl rfl (by kernel_rfl) (fun _ _ _ h => h) (Or.inl ⟨by rfl, ?_⟩) ?_ ?_
  rotate_left
  ·
   intro w'
   go_simp
   with_reducible rfl
  rotate_left
  ·
   simp only [Act.put, List.setIfInBounds_toArray, List.set_cons_zero, List.set_cons_succ, i64_w, i32_w]
   rfl
  refine pure_ (i := 13) (N := some 20) (v := .int .u32 (q : Int)) (a' := ?_) #[true, true, true, true, true, true, true, true, true, true, true, true, true, true, false, false, false] rfl rfl (by kernel_rfl) (fun _ _ _ h => h) (Or.inl ⟨by rfl, ?_⟩) ?_ ?_
  ·
   intro w'
   first | (go_simp; done) | (go_simp; rw [hq0]; done) | (go_simp; exact hq0)
  rotate_left
  ·
   first | (simp only [Act.put, List.setIfInBounds_toArray, List.set_cons_zero, List.set_cons_succ, i64_w, i32_w]; done) | (simp only [Act.put, List.setIfInBounds_toArray, List.set_cons_zero, List.set_cons_succ, i64_w, i32_w]; rfl)
  refine pure_ (i := 14) (N := some 21) (v := .int .u8 ((let64 q).toNat)) (a' := ?_) #[true, true, true, true, true, true, true, true, true, true, true, true, true, true, true, false, false] rfl rfl (by kernel_rfl) (fun _ _ _ h => h) (Or.inl ⟨by rfl, ?_⟩) ?_ ?_
  ·
   intro w'
   go_simp
   (try rw [dif_pos hq2])
   rw [← let_at q hq hq]
   rfl
  rotate_left
  ·
   first | (simp only [Act.put, List.setIfInBounds_toArray, List.set_cons_zero, List.set_cons_succ, i64_w, i32_w]; done) | (simp only [Act.put, List.setIfInBounds_toArray, List.set_cons_zero, List.set_cons_succ, i64_w, i32_w]; rfl)
  refine one_ (i := 15) (N := some 22) #[true, true, true, true, true, true, true, true, true, true, true, true, true, true, true, true, false] rfl rfl (by kernel_rfl) (by decide) (fun K hK => ?_)
  refine value_ (v := .slice (some ⟨w3.heap.size, 0, none⟩) 1 1) (w1 := w3.alloc (.cells #[.int .u8 ((let64 q).toNat)] 5)) (by rfl) rfl ?_ ?_
  ·
   go_simp
  refine hK.out _ _ ⟨?_, ?_⟩ (fun hHeld => ?_)
  ·
   exact (HJ3.out.alloc _).cell1
  ·
   exact (HJ3.out.alloc _).cell2
  clear hK K
  refine norm_ (a' := ?_) ?_ ?_
  rotate_left
  ·
   show Act.put _ (some 22) _ = _
   simp only [Act.put, List.setIfInBounds_toArray, List.set_cons_zero, List.set_cons_succ, i64_w, i32_w]
   rfl
  refine last_ (i := 16) (N := some 23) #[true, true, true, true, true, true, true, true, true, true, true, true, true, true, true, true, true] rfl rfl (by kernel_rfl) (by decide) (fun K hK => ?_)
  refine goes_ Tryd.func36 (by kernel_rfl) rfl #[.pointer (some ⟨g, 0, none⟩), .slice (some ⟨w3.heap.size, 0, none⟩) 1 1] (by rfl) rfl rfl (by (try simp only [List.map_toArray, List.map_cons, List.map_nil]); first | done | rfl) ?_
  refine (add_ok g w3.heap.size 1 (let64 q) bs _ _ _ (HJ3.out.alloc _) ((blk_cell (heap_alloc_new w3 _) 0).trans rfl) (by omega)).mono ?_
  rintro e w4 ⟨rfl, hI4, hK4⟩
  refine ⟨_, rfl, ?_⟩
  refine hK.out _ _ ?_
  clear hK K
  refine norm_ (a' := ?_) ?_ ?_
  rotate_left
  ·
   show Act.put _ (some 23) _ = _
   simp only [Act.put, List.setIfInBounds_toArray, List.set_cons_zero, List.set_cons_succ, i64_w, i32_w]
   rfl
  refine done_ (by kernel_rfl) ?_
  have HI4 := Aside0.mk hI4
  have HK4 := Aside0.mk (HK3.out.trans ((Kept.refl _ g w3).alloc (Nat.le_of_lt HJ3.out.lt) _ |>.trans hK4))
  have hf1 := hI4.frozen 1
  have hf2 := hI4.frozen 2
  have hc1 := hI4.cell1
  have hc2 := hI4.cell2
  clear hI4 hK4 hHeld HJ3 HK3 hc1' hc2'
  go_wp2_with fail
  refine (add_ok g _ 1 45 (bs ++ [let64 q]) 0 0 _ (((HI4.out.setX 0).setN 0).alloc _) (cell_new _ _ (by simp [World.setCell]) _ _) (by rw [List.length_append]; simp; omega)).mono ?_
  rintro e w5 ⟨rfl, hI5, hK5⟩
  have HI5 := Aside0.mk hI5
  have HK5 := Aside0.mk (((HK4.out.setCell 1 (.int .u32 0)).setCell 2 (.int .u32 0)).alloc (Nat.le_of_lt ((HI4.out.setX 0).setN 0).lt) (.cells #[.int .u8 45] 5) |>.trans hK5)
  clear hI5 hK5 hf1 hf2 hc1 hc2
  go_wp2
  go_end0
  refine ⟨rfl, ?_, HK5.out⟩
  unfold endL
  rw [if_pos h0, ← HQ.out]
  exact HI5.out
 ·
  have hi0 : ¬ (0 : Int) < (n : Int) := by omega
  have hd0 : decide ((0 : Int) < (n : Int)) = false := decide_eq_false hi0
  go_wp2_with fail
  refine (add_ok g _ 1 45 bs 0 0 _ (((HI.out.setX 0).setN 0).alloc _) (cell_new _ _ (by simp [World.setCell]) _ _) (by omega)).mono ?_
  rintro e w5 ⟨rfl, hI5, hK5⟩
  have HI5 := Aside0.mk hI5
  have HK5 := Aside0.mk ((((Kept.refl 5 g w).setCell 1 (.int .u32 0)).setCell 2 (.int .u32 0)).alloc (Nat.le_of_lt ((HI.out.setX 0).setN 0).lt) (.cells #[.int .u8 45] 5) |>.trans hK5)
  clear hI5 hK5 hf1 hf2 hc1 hc2
  go_wp2
  go_end0
  refine ⟨rfl, ?_, HK5.out⟩
  unfold endL
  rw [if_neg h0]
  exact HI5.out
/-- What is left behind a unit. -/
theorem emit_bd (k : Nat) : ∀ (bs : List UInt8) (x n : Nat), n < 6 * (k + 1) → (emitL k bs x n).2 < 6 + 6 * 0 ∧ (emitL k bs x n).1.length ≤ bs.length + k := by
 induction k with
 | zero => intro bs x n h; exact ⟨by simp [emitL]; omega, by simp [emitL]⟩
 | succ k ih =>
  intro bs x n h
  simp only [emitL]
  by_cases h6 : 6 ≤ n
  ·
   rw [if_pos h6]
   have := ih (bs ++ [let64 (x / 2 ^ (n - 6) % 64)]) x (n - 6) (by omega)
   rw [List.length_append] at this
   simp at this ⊢
   omega
  ·
   rw [if_neg h6]; simp; omega
theorem unitL_bd (s : List UInt8 × Nat × Nat) (u : Nat) (hn : s.2.2 < 6) : (unitL s u).2.2 < 6 ∧ (unitL s u).2.1 < 4294967296 ∧ (unitL s u).1.length ≤ s.1.length + 10 := by
 have := emit_bd 10 s.1 (s.2.1 * 65536 % 4294967296 ||| u) (s.2.2 + 16) (by omega)
 unfold unitL
 simp only
 refine ⟨by omega, ?_, this.2⟩
 have h1 := this.1
 generalize (emitL 10 s.1 (s.2.1 * 65536 % 4294967296 ||| u) (s.2.2 + 16)).2 = m at h1 ⊢
 exact Nat.lt_of_lt_of_le (Nat.mod_lt _ (Nat.two_pow_pos m)) (Nat.pow_le_pow_right (by omega) (show m ≤ 32 by omega))
def letL (s : List UInt8 × Nat × Nat) (r : Nat) : List UInt8 × Nat × Nat :=
 if 65536 ≤ r then unitL (unitL s (55296 + (r - 65536) / 1024)) (56320 + (r - 65536) % 1024) else unitL s r
theorem letL_bd (s : List UInt8 × Nat × Nat) (r : Nat) (hn : s.2.2 < 6) : (letL s r).2.2 < 6 ∧ (letL s r).2.1 < 4294967296 ∧ (letL s r).1.length ≤ s.1.length + 20 := by
 unfold letL
 split
 ·
  have h1 := unitL_bd s (55296 + (r - 65536) / 1024) hn
  have h2 := unitL_bd (unitL s (55296 + (r - 65536) / 1024)) (56320 + (r - 65536) % 1024) h1.1
  omega
 ·
  have h1 := unitL_bd s r hn
  omega
set_option maxHeartbeats 2000000 in
set_option maxRecDepth 100000 in
theorem letter_ok (g : Nat) (r : Nat) (bs : List UInt8) (x n : Nat) (w : World) (hI : IsBits 47 5 g w bs x n) (hx : x < 4294967296) (hn : n < 6) (hr : r ≤ 2147483647) (hb : bs.length ≤ 10000000000) :
  Calls Tryd.prog 37 #[.pointer (some ⟨g, 0, none⟩), .int .i32 r] w fun e w' => e = .returned (.tuple #[]) ∧ IsBits 47 5 g w' (letL (bs, x, n) r).1 (letL (bs, x, n) r).2.1 (letL (bs, x, n) r).2.2 ∧ Kept 5 g w w' := by
 have HI := Aside0.mk hI
 clear hI
 go_enter Tryd.func37, Tryd.ntmps37
 by_cases h0 : 65536 ≤ r
 ·
  have hi0 : (65536 : Int) ≤ (r : Int) := by omega
  have e1 : 55296 + ((r : Int) - 65536) / 1024 = ((55296 + (r - 65536) / 1024 : Nat) : Int) := by omega
  obtain ⟨u1, hu1⟩ : ∃ u1, u1 = 55296 + (r - 65536) / 1024 := ⟨_, rfl⟩
  obtain ⟨u2, hu2⟩ : ∃ u2, u2 = 56320 + (r - 65536) % 1024 := ⟨_, rfl⟩
  have hb1 := unitL_bd (bs, x, n) u1 hn
  rw [← hu1] at e1
  have HU1 := Aside0.mk hu1
  have HU2 := Aside0.mk hu2
  have hu1l : u1 < 4294967296 := by omega
  have hu2l : u2 < 4294967296 := by omega
  clear hu1 hu2
  go_wp2_with fail
  refine (unit_ok g u1 bs x n w HI.out hx hn hu1l (by omega)).mono ?_
  rintro e w1 ⟨rfl, hI1, hK1⟩
  have HI1 := Aside0.mk hI1
  have HK1 := Aside0.mk hK1
  have hm : bits .and .u32 ((r : Int) - 65536) 1023 = ((((r - 65536) % 1024 : Nat)) : Int) := by
   have e3 : (r : Int) - 65536 = ((r - 65536 : Nat) : Int) := by omega
   have e5 := u32_and_nat (r - 65536) 1023 (by omega) (by omega)
   have e6 : (r - 65536) &&& 1023 = (r - 65536) % 1024 := Nat.and_two_pow_sub_one_eq_mod (r - 65536) 10
   rw [e6] at e5
   rw [e3]
   exact e5
  have hm2 : (((r - 65536) % 1024 : Nat) : Int) < 1024 := by omega
  have hm3 : (0 : Int) ≤ (((r - 65536) % 1024 : Nat) : Int) := by omega
  clear hI1 hK1
  go_wp2_with fail
  have e4 : (56320 : Int) + ((r - 65536 : Nat) : Int) % 1024 = (u2 : Int) := by rw [HU2.out]; omega
  rw [e4]
  refine (unit_ok g u2 _ _ _ w1 HI1.out hb1.2.1 hb1.1 hu2l (by have h : (unitL (bs, x, n) u1).1.length ≤ bs.length + 10 := hb1.2.2; omega)).mono ?_
  rintro e w2 ⟨rfl, hI2, hK2⟩
  have H := Aside0.mk (And.intro hI2 (HK1.out.trans hK2))
  clear hI2 hK2
  go_wp2
  refine bodyPost_ret (results_none rfl _ _ _) rfl ?_
  unfold letL
  rw [if_pos h0, ← HU1.out, ← HU2.out]
  exact ⟨rfl, H.out⟩
 ·
  have hi0 : ¬ (65536 : Int) ≤ (r : Int) := by omega
  go_wp2_with fail
  refine (unit_ok g r bs x n w HI.out hx hn (by omega) (by omega)).mono ?_
  rintro e w1 ⟨rfl, hI1, hK1⟩
  have H := Aside0.mk (And.intro hI1 hK1)
  clear hI1 hK1
  go_wp2
  go_end0
  unfold letL
  rw [if_neg h0]
  exact ⟨rfl, H.out⟩

theorem plain_is (r : Nat) (w : World) : Calls Tryd.prog 34 #[.int .i32 r] w fun e w' => e = .returned (.bool (decide (32 ≤ r ∧ r ≤ 126))) ∧ w' = w := by
 go_enter Tryd.func34, Tryd.ntmps34
 by_cases h1 : 32 ≤ r
 ·
  have i1 : (32 : Int) ≤ (r : Int) := by omega
  by_cases h2 : r ≤ 126
  ·
   have i2 : (r : Int) ≤ 126 := by omega
   go_wp2
   go_ret
   exact ⟨by simp [h1, h2], rfl⟩
  ·
   have i2 : ¬ (r : Int) ≤ 126 := by omega
   go_wp2
   go_ret
   exact ⟨by simp [h2], rfl⟩
 ·
  have i1 : ¬ (32 : Int) ≤ (r : Int) := by omega
  go_wp2
  go_ret
  exact ⟨by simp [h1], rfl⟩
/-- The gathered bytes, the bits that wait, how many; whether a run stands open. -/
abbrev St := (List UInt8 × Nat × Nat) × Bool
def stepE (s : St) (r : Nat) : St :=
 if 32 ≤ r ∧ r ≤ 126 then
  let b := (if s.2 then endL s.1 else s.1.1) ++ [UInt8.ofNat r]
  (((if r = 38 then b ++ [45] else b), 0, 0), false)
 else (letL (if s.2 then s.1 else (s.1.1 ++ [38], s.1.2)) r, true)
def runesF (s : ByteArray) : Nat → Nat → List Nat
 | 0, _ => []
 | k + 1, pos => if pos < s.size then (Utf8.decode s pos).1 :: runesF s k (pos + (Utf8.decode s pos).2) else []
def encL (l : List Nat) : List UInt8 :=
 let s := l.foldl stepE (([], 0, 0), false)
 if s.2 then endL s.1 else s.1.1
def names_Encode.f (a0 : ByteArray) : Option (ByteArray × Int) :=
 if a0.size ≤ 100000000 then (if Lib.validD a0.data.toList then some (⟨(encL (runesF a0 a0.size 0)).toArray⟩, 0) else some (⟨#[]⟩, 11)) else none
theorem below_le {B B' : Nat} {a b : World} (h : Below B a b) (hB : B' ≤ B) : Below B' a b := ⟨h.os, h.tape, h.output, h.size, fun i hi => h.block i (by omega)⟩
/-- What is gathered, as a text. -/
theorem bits_str {g : Nat} {w : World} {bs : List UInt8} {x n : Int} (h : IsBits 47 5 g w bs x n) (hb : bs.length ≤ 9223372036854775807) :
  ∃ v, w.cell? ⟨g, 0, none⟩ = some v ∧ (convert 42 9 v).run Tryd.prog w = .ok (.string ⟨bs.toArray⟩) w := by
 obtain ⟨v, h1, h2⟩ := h
 refine ⟨v, by simp [World.cell?, h1], ?_⟩
 have key : ∀ A c, v = .slice A bs.length c → (∀ j, j < bs.length → ∃ ad, A = some ad ∧ w.cell? (ad.add j) = some (.int .u8 ((bs.map fun b => (b.toNat : Int)).getD j 0))) → (0 < bs.length → A.isSome = true) → (convert 42 9 v).run Tryd.prog w = .ok (.string ⟨bs.toArray⟩) w := by
  rintro A c rfl hc hA
  rw [← strOf_map]
  refine string_of_reads (P := Tryd.prog) Tryd.underlying42 Tryd.underlying5 Tryd.underlying9 ⟨by simp, hb, fun hp => ?_⟩
  obtain ⟨ad, e, _⟩ := hc 0 hp
  exact ⟨ad, e, fun j hj => by obtain ⟨ad', e', h'⟩ := hc j hj; rw [e] at e'; injection e' with e'; subst e'; exact h'⟩
 rcases h2.2 with ⟨e, h0⟩ | ⟨g', cap, cur, e, _⟩
 ·
  refine key none 0 (by rw [e, h0]) (fun j hj => by omega) (fun hp => by omega)
 ·
  refine key (some ⟨g', 0, none⟩) cap e (fun j hj => ⟨_, rfl, ?_⟩) (fun _ => rfl)
  refine h2.cells (g := g') (by rw [e]; rfl) j _ ?_
  simp [Lib.byteCells, List.getD_eq_getElem?_getD, List.getElem?_eq_getElem hj]
theorem u8_nat (r : Nat) (h : r < 256) : ((UInt8.ofNat r).toNat : Int) = (r : Int) := by simp; omega
/-- What is kept of the gathered state, round by round. -/
def GoodE (s : St) (L : Nat) : Prop := s.1.2.2 < 6 ∧ s.1.2.1 < 4294967296 ∧ s.1.1.length ≤ L ∧ (s.2 = false → s.1.2.1 = 0 ∧ s.1.2.2 = 0)
theorem endL_len (s : List UInt8 × Nat × Nat) : (endL s).length ≤ s.1.length + 2 := by
 unfold endL; split <;> simp
theorem goodE_step {s : St} {L : Nat} (h : GoodE s L) (r : Nat) : GoodE (stepE s r) (L + 30) := by
 obtain ⟨h1, h2, h3, h4⟩ := h
 unfold stepE
 by_cases hp : 32 ≤ r ∧ r ≤ 126
 ·
  rw [if_pos hp]
  refine ⟨by simp, by simp, ?_, fun _ => ⟨rfl, rfl⟩⟩
  have := endL_len s.1
  simp only
  split <;> split <;> simp <;> omega
 ·
  rw [if_neg hp]
  have hn : (if s.2 = true then s.1 else (s.1.1 ++ [38], s.1.2)).2.2 < 6 := by split <;> exact h1
  have := letL_bd (if s.2 = true then s.1 else (s.1.1 ++ [38], s.1.2)) r hn
  refine ⟨this.1, this.2.1, ?_, fun e => by cases e⟩
  have hl : (if s.2 = true then s.1 else (s.1.1 ++ [38], s.1.2)).1.length ≤ s.1.1.length + 1 := by split <;> simp
  simp only
  omega
theorem obj_alloc {w : World} {k : Nat} {o' : Obj} (h : w.heap[k]? = some o') (o : Obj) : (w.alloc o).heap[k]? = some o' := (Below.heap_alloc w o k (Array.getElem?_eq_some_iff.1 h).1).trans h
theorem runesF_end (s : ByteArray) (k pos : Nat) (h : ¬ pos < s.size) : runesF s k pos = [] := by
 cases k with
 | zero => rfl
 | succ k => simp [runesF, h]
theorem width_pos (s : ByteArray) (pos : Nat) (h : pos < s.size) : 1 ≤ (Utf8.decode s pos).2 := by
 by_cases ha : (s[pos]'h).toNat < 128
 ·
  rw [decode_ascii s pos h ha]
  exact Nat.le_refl _
 ·
  exact (decode_high s pos h (by omega)).2
set_option maxHeartbeats 4000000 in
set_option maxRecDepth 100000 in
theorem names_Encode.calls (a0 r0 : ByteArray) (r1 : Int) (w : World) (h : names_Encode.f a0 = some (r0, r1)) (hT : Tabs w) :
  Calls Tryd.prog 11 #[.string a0] w fun e w' => e = .returned (.tuple #[.string r0, .int .i64 r1]) ∧ Below w.heap.size w w' := by
 unfold names_Encode.f at h
 split at h
 case isFalse => cases h
 rename_i hs
 go_enter Tryd.func11, Tryd.ntmps11
 go_wp2_with fail
 refine (valid_any a0 _ (by omega) hT).mono ?_
 rintro e w1 ⟨rfl, hb1⟩
 by_cases hv : Lib.validD a0.data.toList = true
 ·
  rw [if_pos hv] at h
  injection h with h
  obtain ⟨rfl, rfl⟩ := Prod.mk.inj h
  have HB1 := Aside0.mk hb1
  obtain ⟨fin, hfin⟩ : ∃ fin, fin = (runesF a0 a0.size 0).foldl stepE (([], 0, 0), false) := ⟨_, rfl⟩
  have HF := Aside0.mk hfin
  have hle1 := hb1.size
  clear hb1 h hfin hT
  go_wp2_with fail
  go_loopg [5] a0.size (fun kq v5 wr => ∃ (pos : Nat) (s : St), v5 = .bool s.2 ∧ a0.size ≤ pos + kq ∧ kq ≤ a0.size ∧ Aside0 (IsBits 47 5 w1.heap.size wr s.1.1 s.1.2.1 s.1.2.2) ∧ Aside0 (wr.heap[w1.heap.size + 1]? = some (.stringIter a0 pos)) ∧ Aside0 (Below w.heap.size w wr) ∧ Aside0 ((runesF a0 kq pos).foldl stepE s = fin) ∧ Aside0 (GoodE s (30 * (a0.size - kq))))
  case atStart =>
   refine ⟨0, (([], 0, 0), false), rfl, by omega, by omega, ⟨(IsBits.fresh 47 5 w1).alloc _⟩, ⟨?_⟩, ⟨?_⟩, ⟨HF.out.symm⟩, ⟨by simp [GoodE]⟩⟩
   ·
    have := World.iter_heap (w1.alloc (.cells #[.slice none 0 0, .int .u32 0, .int .u32 0] 47)) a0 0
    simpa using this
   ·
    exact (HB1.out.alloc hle1 _).alloc (by simp; omega) _
  case round =>
   obtain ⟨pos, s, rfl, hpk, hka, HI, HIT, HB, HFo, HG⟩ := hrel
   by_cases hp : pos < a0.size
   ·
    obtain ⟨k, rfl⟩ : ∃ k, gk = k + 1 := ⟨gk - 1, by omega⟩
    have hnx : ∀ ty, (Instr.next (.pointer (some ⟨w1.heap.size + 1, 0, none⟩)) true ty).run Tryd.prog wr = _ := fun ty => Lib.run_next_any_at wr (w1.heap.size + 1) a0 pos ty HIT.out hp
    have hwd := width_pos a0 pos hp
    have hrl := decode_le a0 pos
    have hfo := HFo.out
    simp only [runesF] at hfo
    rw [if_pos hp, List.foldl_cons] at hfo
    obtain ⟨r, hr⟩ : ∃ r, r = (Utf8.decode a0 pos).1 := ⟨_, rfl⟩
    obtain ⟨wd, hw⟩ : ∃ wd, wd = (Utf8.decode a0 pos).2 := ⟨_, rfl⟩
    rw [← hr, ← hw] at hnx hfo
    rw [← hw] at hwd
    rw [← hr] at hrl
    clear hr hw
    have HF2 := Aside0.mk hfo
    have HI2 := Aside0.mk (HI.out.iterAt HIT.out (pos + wd))
    have HIT2 := Aside0.mk (Lib.iterAt_heap wr (w1.heap.size + 1) a0 pos (pos + wd) HIT.out)
    have HB2 := Aside0.mk (Lib.below_iterAt HB.out (k := w1.heap.size + 1) (by omega) a0 (pos + wd))
    have HG2 := Aside0.mk (goodE_step HG.out r)
    obtain ⟨hn6, hx32, hlen, hzero⟩ := HG.out
    clear HFo hfo HI HIT HB HG
    obtain ⟨⟨sb, sx, sn⟩, sr⟩ := s
    simp only at hn6 hx32 hlen hzero HI2 ⊢
    go_wp2_with fail
    refine (plain_is r _).mono ?_
    rintro e w2 ⟨rfl, rfl⟩
    clear hnx
    generalize wr.iterAt (w1.heap.size + 1) a0 (pos + wd) = wr2 at HI2 HIT2 HB2 ⊢
    by_cases hpl : 32 ≤ r ∧ r ≤ 126
    ·
     have hdp : decide (32 ≤ r ∧ r ≤ 126) = true := decide_eq_true hpl
     have hr256 : (r : Int) % 256 = (r : Int) := by omega
     cases sr with
     | true =>
      go_wp2_with fail
      refine (end_ok w1.heap.size sb sx sn _ HI2.out hx32 hn6 (by omega)).mono ?_
      rintro e w3 ⟨rfl, hI3, hK3⟩
      have HI3 := Aside0.mk hI3
      have HIT3 := Aside0.mk (hK3.iter HIT2.out (by omega))
      have HB3 := Aside0.mk (HB2.out.trans (below_le hK3.below (by omega)))
      clear hI3 hK3 HI2 HIT2 HB2
      go_wp2_with fail
      refine (add_ok w1.heap.size _ 1 (UInt8.ofNat r) (endL (sb, sx, sn)) 0 0 _ (HI3.out.alloc _) (by rw [u8_nat r (by omega)]; exact cell_new _ _ rfl _ _) (by have := endL_len (sb, sx, sn); simp only at this; omega)).mono ?_
      rintro e w4 ⟨rfl, hI4, hK4⟩
      have HI4 := Aside0.mk hI4
      have HIT4 := Aside0.mk (hK4.iter (obj_alloc HIT3.out _) (by omega))
      have HB4 := Aside0.mk ((HB3.out.alloc (HB3.out.size) _).trans (below_le hK4.below (by omega)))
      clear hI4 hK4 HI3 HIT3 HB3
      by_cases h38 : r = 38
      ·
       have h38b : ((r : Int) == 38) = true := beq_iff_eq.mpr (by omega)
       go_wp2_with fail
       refine (add_ok w1.heap.size _ 1 45 (endL (sb, sx, sn) ++ [UInt8.ofNat r]) 0 0 _ (HI4.out.alloc _) (cell_new _ _ rfl _ _) (by simp only [List.length_append, List.length_cons, List.length_nil]; have := endL_len (sb, sx, sn); simp only at this; omega)).mono ?_
       rintro e w5 ⟨rfl, hI5, hK5⟩
       have HI5 := Aside0.mk hI5
       have HIT5 := Aside0.mk (hK5.iter (obj_alloc HIT4.out _) (by omega))
       have HB5 := Aside0.mk ((HB4.out.alloc (HB4.out.size) _).trans (below_le hK5.below (by omega)))
       clear hI5 hK5 HI4 HIT4 HB4
       go_wp2_with fail
       have hst : stepE ((sb, sx, sn), true) r = ((endL (sb, sx, sn) ++ [UInt8.ofNat r] ++ [45], 0, 0), false) := by
        unfold stepE; rw [if_pos hpl]; show (((if r = 38 then _ ++ [45] else _), 0, 0), false) = _; rw [if_pos h38]; rfl
       have hF := HF2.out
       have hG := HG2.out
       rw [hst] at hF hG
       have HF3 := Aside0.mk hF
       have HG3 := Aside0.mk hG
       clear hF hG HF2 HG2
       go_roundg k
       case measure => omega
       case rel => exact ⟨pos + wd, _, rfl, by omega, by omega, HI5, HIT5, HB5, HF3, ⟨by have := HG3.out; rw [show 30 * (a0.size - k) = 30 * (a0.size - (k + 1)) + 30 by omega]; exact this⟩⟩
      ·
       have h38b : ((r : Int) == 38) = false := beq_eq_false_iff_ne.mpr (by omega)
       go_wp2_with fail
       have hst : stepE ((sb, sx, sn), true) r = ((endL (sb, sx, sn) ++ [UInt8.ofNat r], 0, 0), false) := by
        unfold stepE; rw [if_pos hpl]; show (((if r = 38 then _ ++ [45] else _), 0, 0), false) = _; rw [if_neg h38]; rfl
       have hF := HF2.out
       have hG := HG2.out
       rw [hst] at hF hG
       have HF3 := Aside0.mk hF
       have HG3 := Aside0.mk hG
       clear hF hG HF2 HG2
       go_roundg k
       case measure => omega
       case rel => exact ⟨pos + wd, _, rfl, by omega, by omega, HI4, HIT4, HB4, HF3, ⟨by have := HG3.out; rw [show 30 * (a0.size - k) = 30 * (a0.size - (k + 1)) + 30 by omega]; exact this⟩⟩
     | false =>
      obtain ⟨rfl, rfl⟩ := hzero rfl
      go_wp2_with fail
      refine (add_ok w1.heap.size _ 1 (UInt8.ofNat r) (sb) _ _ _ (HI2.out.alloc _) (by rw [u8_nat r (by omega)]; exact cell_new _ _ rfl _ _) (by have := endL_len (sb, 0, 0); simp only at this; omega)).mono ?_
      rintro e w4 ⟨rfl, hI4, hK4⟩
      have HI4 := Aside0.mk hI4
      have HIT4 := Aside0.mk (hK4.iter (obj_alloc HIT2.out _) (by omega))
      have HB4 := Aside0.mk ((HB2.out.alloc (HB2.out.size) _).trans (below_le hK4.below (by omega)))
      clear hI4 hK4 HI2 HIT2 HB2
      by_cases h38 : r = 38
      ·
       have h38b : ((r : Int) == 38) = true := beq_iff_eq.mpr (by omega)
       go_wp2_with fail
       refine (add_ok w1.heap.size _ 1 45 (sb ++ [UInt8.ofNat r]) _ _ _ (HI4.out.alloc _) (cell_new _ _ rfl _ _) (by simp only [List.length_append, List.length_cons, List.length_nil]; have := endL_len (sb, 0, 0); simp only at this; omega)).mono ?_
       rintro e w5 ⟨rfl, hI5, hK5⟩
       have HI5 := Aside0.mk hI5
       have HIT5 := Aside0.mk (hK5.iter (obj_alloc HIT4.out _) (by omega))
       have HB5 := Aside0.mk ((HB4.out.alloc (HB4.out.size) _).trans (below_le hK5.below (by omega)))
       clear hI5 hK5 HI4 HIT4 HB4
       go_wp2_with fail
       have hst : stepE ((sb, 0, 0), false) r = ((sb ++ [UInt8.ofNat r] ++ [45], 0, 0), false) := by
        unfold stepE; rw [if_pos hpl]; show (((if r = 38 then _ ++ [45] else _), 0, 0), false) = _; rw [if_pos h38]; rfl
       have hF := HF2.out
       have hG := HG2.out
       rw [hst] at hF hG
       have HF3 := Aside0.mk hF
       have HG3 := Aside0.mk hG
       clear hF hG HF2 HG2
       go_roundg k
       case measure => omega
       case rel => exact ⟨pos + wd, _, rfl, by omega, by omega, HI5, HIT5, HB5, HF3, ⟨by have := HG3.out; rw [show 30 * (a0.size - k) = 30 * (a0.size - (k + 1)) + 30 by omega]; exact this⟩⟩
      ·
       have h38b : ((r : Int) == 38) = false := beq_eq_false_iff_ne.mpr (by omega)
       go_wp2_with fail
       have hst : stepE ((sb, 0, 0), false) r = ((sb ++ [UInt8.ofNat r], 0, 0), false) := by
        unfold stepE; rw [if_pos hpl]; show (((if r = 38 then _ ++ [45] else _), 0, 0), false) = _; rw [if_neg h38]; rfl
       have hF := HF2.out
       have hG := HG2.out
       rw [hst] at hF hG
       have HF3 := Aside0.mk hF
       have HG3 := Aside0.mk hG
       clear hF hG HF2 HG2
       go_roundg k
       case measure => omega
       case rel => exact ⟨pos + wd, _, rfl, by omega, by omega, HI4, HIT4, HB4, HF3, ⟨by have := HG3.out; rw [show 30 * (a0.size - k) = 30 * (a0.size - (k + 1)) + 30 by omega]; exact this⟩⟩
    ·
     have hdp : decide (32 ≤ r ∧ r ≤ 126) = false := decide_eq_false hpl
     cases sr with
     | true =>
      go_wp2_with fail
      refine (letter_ok w1.heap.size r sb sx sn _ HI2.out hx32 hn6 (by omega) (by omega)).mono ?_
      rintro e w3 ⟨rfl, hI3, hK3⟩
      have HI3 := Aside0.mk hI3
      have HIT3 := Aside0.mk (hK3.iter HIT2.out (by omega))
      have HB3 := Aside0.mk (HB2.out.trans (below_le hK3.below (by omega)))
      clear hI3 hK3 HI2 HIT2 HB2
      go_wp2_with fail
      have hst : stepE ((sb, sx, sn), true) r = (letL (sb, sx, sn) r, true) := by
       unfold stepE; rw [if_neg hpl]; rfl
      have hF := HF2.out
      have hG := HG2.out
      rw [hst] at hF hG
      have HF3 := Aside0.mk hF
      have HG3 := Aside0.mk hG
      clear hF hG HF2 HG2
      go_roundg k
      case measure => omega
      case rel => exact ⟨pos + wd, _, rfl, by omega, by omega, HI3, HIT3, HB3, HF3, ⟨by have := HG3.out; rw [show 30 * (a0.size - k) = 30 * (a0.size - (k + 1)) + 30 by omega]; exact this⟩⟩
     | false =>
      go_wp2_with fail
      refine (add_ok w1.heap.size _ 1 38 (sb) _ _ _ (HI2.out.alloc _) (cell_new _ _ rfl _ _) (by have := endL_len (sb, sx, sn); simp only at this; omega)).mono ?_
      rintro e w4 ⟨rfl, hI4, hK4⟩
      have HI4 := Aside0.mk hI4
      have HIT4 := Aside0.mk (hK4.iter (obj_alloc HIT2.out _) (by omega))
      have HB4 := Aside0.mk ((HB2.out.alloc (HB2.out.size) _).trans (below_le hK4.below (by omega)))
      clear hI4 hK4 HI2 HIT2 HB2
      go_wp2_with fail
      refine (letter_ok w1.heap.size r (sb ++ [38]) sx sn _ HI4.out hx32 hn6 (by omega) (by simp only [List.length_append, List.length_cons, List.length_nil]; omega)).mono ?_
      rintro e w3 ⟨rfl, hI3, hK3⟩
      have HI3 := Aside0.mk hI3
      have HIT3 := Aside0.mk (hK3.iter HIT4.out (by omega))
      have HB3 := Aside0.mk (HB4.out.trans (below_le hK3.below (by omega)))
      clear hI3 hK3 HI4 HIT4 HB4
      go_wp2_with fail
      have hst : stepE ((sb, sx, sn), false) r = (letL (sb ++ [38], sx, sn) r, true) := by
       unfold stepE; rw [if_neg hpl]; rfl
      have hF := HF2.out
      have hG := HG2.out
      rw [hst] at hF hG
      have HF3 := Aside0.mk hF
      have HG3 := Aside0.mk hG
      clear hF hG HF2 HG2
      go_roundg k
      case measure => omega
      case rel => exact ⟨pos + wd, _, rfl, by omega, by omega, HI3, HIT3, HB3, HF3, ⟨by have := HG3.out; rw [show 30 * (a0.size - k) = 30 * (a0.size - (k + 1)) + 30 by omega]; exact this⟩⟩
   ·
    have hnx : ∀ ty, (Instr.next (.pointer (some ⟨w1.heap.size + 1, 0, none⟩)) true ty).run Tryd.prog wr = _ := fun ty => Lib.run_next_end_at wr (w1.heap.size + 1) a0 pos ty HIT.out hp
    have hfo := HFo.out
    rw [runesF_end a0 gk pos hp] at hfo
    have hfs : s = fin := hfo
    obtain ⟨hn6, hx32, hlen, hzero⟩ := HG.out
    have hres : encL (runesF a0 a0.size 0) = if s.2 = true then endL s.1 else s.1.1 := by
     unfold encL; rw [← HF.out, ← hfs]
    have HR := Aside0.mk hres
    clear hfo HFo hfs hres HG hzero HIT
    obtain ⟨⟨sb, sx, sn⟩, sr⟩ := s
    simp only at hn6 hx32 hlen HI HR ⊢
    cases sr with
    | true =>
     go_wp2_with fail
     refine (end_ok w1.heap.size sb sx sn _ HI.out hx32 hn6 (by omega)).mono ?_
     rintro e w3 ⟨rfl, hI3, hK3⟩
     have hl2 := endL_len (sb, sx, sn)
     simp only at hl2
     obtain ⟨v, hcv, hcon⟩ := bits_str hI3 (by omega)
     have HB3 := Aside0.mk (HB.out.trans (below_le hK3.below (by omega)))
     clear hI3 hK3 HI hl2 hnx
     go_wp2
     refine bodyPost_ret (results_tmp2 rfl _ _ _) rfl ?_
     refine ⟨?_, HB3.out⟩
     have := HR.out
     simp only [if_true] at this
     rw [this]
     rfl
    | false =>
     obtain ⟨v, hcv, hcon⟩ := bits_str HI.out (by omega)
     go_wp2
     refine bodyPost_ret (results_tmp2 rfl _ _ _) rfl ?_
     refine ⟨?_, HB.out⟩
     have := HR.out
     simp only [Bool.false_eq_true, if_false] at this
     rw [this]
     rfl
 ·
  have hv' : Lib.validD a0.data.toList = false := Bool.eq_false_iff.2 hv
  rw [if_neg hv] at h
  injection h with h
  obtain ⟨rfl, rfl⟩ := Prod.mk.inj h
  have HB1 := Aside0.mk hb1
  clear hb1 h hT
  go_wp2
  refine bodyPost_ret (results_tmp2 rfl _ _ _) rfl ?_
  exact ⟨rfl, HB1.out⟩

end Go.Proofs.YtnkibbfpmhgeaaaDoor.PP
