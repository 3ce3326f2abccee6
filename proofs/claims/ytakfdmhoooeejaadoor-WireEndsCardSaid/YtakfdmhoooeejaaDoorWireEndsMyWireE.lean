/- YtakfdmhoooeejaaDoorMyWireE, as far as WireEnds needs it (prune.py). -/
import Derived.Test.YtakfdmhoooeejaaDoorWireEndsMyWireD
namespace Go.Proofs.YtakfdmhoooeejaaDoor.PP
open Go.RowKit Go.Proofs.YtakfdmhoooeejaaDoorW.PrintWords Go.Proofs.YtakfdmhoooeejaaDoorW.PrintLast Go.Proofs.YtakfdmhoooeejaaDoorW.PrintMore
open Go.Proofs.YtakfdmhoooeejaaDoor.My
set_option linter.unusedVariables false
set_option linter.unusedSimpArgs false
def endLineS (s : FS) (line : List UInt8) : FS × List Evt :=
  match markS line with
  | none => (beginS s, [evt 1 (s.texts ++ [str line]) s.lits])
  | some (t, n, on) =>
    if 50000 < n ∨ s.lits.length = 20 then
      (if on = true then skippedS { beginS s with left := n, skip := true, md := .skipLit } else beginS s, [evt 3 (s.texts ++ [str t]) s.lits])
    else (endedS { s with size := s.size + line.length, texts := s.texts ++ [str t], line := [], left := n, md := .lit }, if on = true then [] else [evt 2 [] []])
/-- Events that a step tells: what they lie in is new, and none of the feed's. -/
abbrev EN (w : World) (base g : Nat) (V : FV) (v : Value) (l : List Evt) : Prop := Kd.N k39 39 w base (fun k => base ≤ k ∧ ¬ FB g V k) v l
theorem SRow.kept {w w' : World} {base : Nat} {v : Value} {l : List ByteArray} {S : Nat → Prop} (h : SRow w base v l) (hk : Kept w w' S) (hs : ∀ k, base ≤ k → ¬ S k) : SRow w' base v l :=
  R_same h (fun k e => hk.2 k (Kd.R_lt h k e) (hs k (Kd.R_base h k e)))
theorem decFrom_lt : ∀ (d : List UInt8) (acc m : Nat), Lib.decFrom acc d = some m → m < (acc + 1) * 10 ^ d.length
  | [], acc, m, h => by
    rw [Lib.decFrom] at h
    injection h with h
    simp; omega
  | c :: d, acc, m, h => by
    rw [Lib.decFrom] at h
    cases hk : Lib.digitVal c with
    | none => rw [hk] at h; cases h
    | some k =>
      rw [hk] at h
      have ih := decFrom_lt d _ m h
      have hk9 : k ≤ 9 := by
        unfold Lib.digitVal at hk
        split at hk
        · injection hk with hk; omega
        · cases hk
      have h2 : acc * 10 + k + 1 ≤ (acc + 1) * 10 := by omega
      have h3 := Nat.mul_le_mul_right (10 ^ d.length) h2
      rw [List.length_cons, Nat.pow_succ]
      calc m < (acc * 10 + k + 1) * 10 ^ d.length := ih
        _ ≤ (acc + 1) * 10 * 10 ^ d.length := h3
        _ = (acc + 1) * (10 ^ d.length * 10) := by rw [Nat.mul_assoc, Nat.mul_comm 10]
theorem atoi_lt (d : List UInt8) (h0 : d ≠ []) (h : ∀ c ∈ d, c ∈ digs) (h6 : d.length ≤ 6) : ∃ m : Nat, Lib.atoi d = some (m : Int) ∧ m ≤ 999999 := by
  obtain ⟨m, hm⟩ := decFrom_digs d 0 h
  have hlt := decFrom_lt d 0 m hm
  have hp : 10 ^ d.length ≤ 10 ^ 6 := Nat.pow_le_pow_right (by omega) h6
  obtain ⟨k, hk⟩ := atoi_digs d h0 h
  refine ⟨k, hk, ?_⟩
  cases d with
  | nil => exact absurd rfl h0
  | cons c d =>
    have hc := h c (List.mem_cons_self ..)
    have h1 : (c == 45) = false ∧ (c == 43) = false := by
      simp only [List.mem_cons, List.mem_nil_iff, or_false] at hc
      rcases hc with rfl | rfl | rfl | rfl | rfl | rfl | rfl | rfl | rfl | rfl <;> exact ⟨rfl, rfl⟩
    rw [Lib.atoi, h1.1, h1.2] at hk
    simp only [Bool.false_eq_true, if_false, Lib.decNat, List.isEmpty_cons] at hk
    rw [hm] at hk
    simp at hk
    omega
theorem markS_n {l : List UInt8} {t : List UInt8} {n : Int} {on : Bool} (h : markS l = some (t, n, on)) : 0 ≤ n ∧ n ≤ 999999 := by
  unfold markS at h
  split at h
  · split at h
    · cases h
    · split at h
      · cases h
      · rename_i hc
        simp only [not_or, Decidable.not_not] at hc
        obtain ⟨h1, h2, h3⟩ := hc
        injection h with h
        injection h with _ h
        injection h with h _
        obtain ⟨m, hm, hle⟩ := atoi_lt _ h1 (trim_none _ _ h3) (by omega)
        rw [hm] at h
        simp at h
        omega
  · cases h
theorem EN.of_new {w : World} {base b0 g : Nat} {V : FV} {v : Value} {l : List Evt} (h : ERow w b0 v l) (hb : base ≤ b0) (hd : ∀ k, FB g V k → k < b0) : EN w base g V v l :=
  Kd.N_mono (Kd.N_lower h hb) (fun k hk => ⟨Nat.le_trans hb hk, fun hf => by have := hd k hf; omega⟩)
theorem FB_nil (g k : Nat) (h : FB g vnil k) : k = g := by
  rcases h with h | h | h | h
  · exact h
  · simp [vnil, Value.ownBlock] at h
  · simp [vnil, Value.ownBlock] at h
  · simp [vnil, Value.ownBlock] at h
theorem S_one (W : World) (x : ByteArray) : SRow (W.alloc (.cells #[.string x] 9)) W.heap.size (.slice (some ⟨W.heap.size, 0, none⟩) 1 1) [x] :=
  Kd.R_of_own (World.ownsRow_lit (base := W.heap.size) (e := 9) (size := 1) W #[.string x] 1 (Nat.le_refl _) (by simp [maxLen]) (by simp)) (fun _ _ => trivial)
theorem C_one (W : World) (x : ByteArray) : Kd.C Kd.string (W.alloc (.cells #[.string x] 9)) (some ⟨W.heap.size, 0, none⟩) 1 [x] := (Kd.R_reads' (S_one W x)).2.2
set_option maxHeartbeats 4000000 in
set_option maxRecDepth 100000 in
theorem endLine_ok (N0 g : Nat) (w : World) (V : FV) (s : FS) (l : List UInt8) (h : FW N0 w g V s) (hl : l.length ≤ 1000000000) (ht : s.texts.length ≤ 100000) (hll : s.lits.length ≤ 100000) (hsz : 0 ≤ s.size ∧ s.size ≤ 1000000000) :
    Calls Tryd.prog 28 #[.pointer (some ⟨g, 0, none⟩), .string (str l)] w fun e w' => ∃ (vo : Value) (V' : FV), e = .returned vo ∧ EN w' w.heap.size g V' vo (endLineS s l).2 ∧ FW N0 w' g V' (endLineS s l).1 ∧ FX N0 g w V w' V' := by
  have HV := Aside0.mk h
  have HL := Aside0.mk hl
  have HT := Aside0.mk ht
  have HLL := Aside0.mk hll
  have HSZ := Aside0.mk hsz
  clear h hl ht hll hsz
  go_enter Tryd.func28, Tryd.ntmps28
  go_wp2_with fail
  refine (mark_ok l w HL.out).mono ?_
  rintro e w1 ⟨rfl, hb1⟩
  have HV1 := Aside0.mk (HV.out.below hb1)
  have HX1 := Aside0.mk ((FX.refl N0 g w V).below (by have := HV.out.lt; have := HV.out.ge; omega) hb1)
  have HS1 := Aside0.mk hb1.size
  clear hb1
  unfold markV
  cases hm : markS l with
  | none =>
    have HM := Aside0.mk (show endLineS s l = (beginS s, [evt 1 (s.texts ++ [str l]) s.lits]) by unfold endLineS; rw [hm])
    clear hm
    dsimp only
    go_wp2_with fail
    have hb2 : Below w1.heap.size w1 (w1.alloc (.cells #[.string (str l)] 9)) := below_alloc (Below.refl _ _) _
    refine (raw_ok N0 g _ V s _ 1 (str l) (HV1.out.below hb2) (C_one w1 (str l)) (by have := HT.out; omega) (by have := HLL.out; omega)).mono ?_
    rintro e w2 ⟨A1, A2, c1, c2, rfl, hr1, hr2, hb3⟩
    have hb4 : Below w1.heap.size w1 w2 := hb2.trans (hb3.mono hb2.size)
    have HR1 := Aside0.mk (Kd.R_lower hr1 hb2.size)
    have HR2 := Aside0.mk (Kd.R_lower hr2 hb2.size)
    have HV2 := Aside0.mk (HV1.out.below hb4)
    have HX2 := Aside0.mk (HX1.out.below (by have := HV1.out.lt; have := HV1.out.ge; omega) hb4)
    have HS2 := Aside0.mk hb4.size
    clear hb2 hb3 hb4 hr1 hr2
    go_upto_region 4 with fail
    obtain ⟨W3, hW3⟩ : ∃ W3, W3 = w2.alloc (.cells #[.slice A1 (s.texts.length + 1) c1, .slice A2 s.lits.length c2] 37) := ⟨_, rfl⟩
    rw [← hW3]
    have hb5 : Below w2.heap.size w2 W3 := by rw [hW3]; exact below_alloc (Below.refl _ _) _
    have hk3 : W3.heap[w2.heap.size]? = some (.cells #[.slice A1 (s.texts.length + 1) c1, .slice A2 s.lits.length c2] 37 (0, 0)) := by rw [hW3]; exact blk_new _ _
    have HV3 := Aside0.mk (HV2.out.below hb5)
    have HX3 := Aside0.mk (HX2.out.below (by have := HV2.out.lt; have := HV2.out.ge; omega) hb5)
    have HR3 := Aside0.mk (And.intro (Kd.R_below HR1.out hb5) (Kd.R_below HR2.out hb5))
    have HRB := Aside0.mk (show w1.heap.size ≤ w2.heap.size ∧ w2.heap.size < W3.heap.size from ⟨HS2.out, by rw [hW3, sz_alloc]; omega⟩)
    clear hW3 hb5
    generalize w2.heap.size = rB at hk3 HRB ⊢
    go_wp2_with fail
    refine (begin_ok N0 g W3 V s HV3.out).mono ?_
    rintro e w4 ⟨rfl, hw4, hx4⟩
    have hfb : ∀ k, w1.heap.size ≤ k → ¬ FB g V k := fun k hk hf => by have := HV1.out.fb_lt k hf; omega
    have hk4 := (hx4.kept.2 rB HRB.out.2 (hfb rB HRB.out.1)).trans hk3
    have d0 := (blk_cell hk4 0).trans (show _ = some (Value.slice A1 (s.texts.length + 1) c1) from rfl)
    have d1 := (blk_cell hk4 1).trans (show _ = some (Value.slice A2 s.lits.length c2) from rfl)
    have HR4 := Aside0.mk (And.intro (SRow.kept HR3.out.1 hx4.kept hfb) (SRow.kept HR3.out.2 hx4.kept hfb))
    have HV4 := Aside0.mk hw4
    have HX4 := Aside0.mk (HX3.out.trans hx4)
    have HS4 := Aside0.mk (show w1.heap.size ≤ w4.heap.size by have := hx4.kept.1; have := HRB.out; omega)
    clear hw4 hx4 hfb hk4 hk3
    go_wp2_with fail
    refine (one_ok 1 A1 A2 _ _ c1 c2 (s.texts ++ [str l]) s.lits w1.heap.size _ HR4.out.1 HR4.out.2 HS4.out).mono ?_
    rintro e w5 ⟨A5, c5, rfl, ho, hb⟩
    have HO := Aside0.mk (EN.of_new (g := g) (V := vnil) ho (show w.heap.size ≤ w1.heap.size from HS1.out) (fun k hk => by rw [FB_nil g k hk]; exact HV1.out.lt))
    have HV5 := Aside0.mk (HV4.out.below hb)
    have HX5 := Aside0.mk (HX4.out.below (by have := HV4.out.lt; have := HV4.out.ge; omega) hb)
    clear ho hb
    go_wp2_with fail
    go_ret
    refine ⟨_, vnil, rfl, ?_, ?_, HX5.out⟩
    · rw [HM.out]; exact HO.out
    · rw [HM.out]; exact HV5.out
  | some r =>
    obtain ⟨t, n, on⟩ := r
    dsimp only
    obtain ⟨Al, cl, el⟩ := Kd.R_slice HV1.out.rl
    obtain ⟨⟨e0, e1, e2, e3, e4, e5, e6⟩, f0, f1, f2, f3, f4, f5, f6⟩ := HV1.out.all
    rw [el] at e1
    by_cases h50 : 50000 < n
    ·
      have h50b := decide_eq_true h50
      have HM := Aside0.mk (show endLineS s l = (if on = true then skippedS { beginS s with left := n, skip := true, md := .skipLit } else beginS s, [evt 3 (s.texts ++ [str t]) s.lits]) by unfold endLineS; rw [hm]; dsimp only; rw [if_pos (.inl h50)])
      clear hm h50
      go_wp2_with fail
      have hb2 : Below w1.heap.size w1 (w1.alloc (.cells #[.string (str t)] 9)) := below_alloc (Below.refl _ _) _
      refine (raw_ok N0 g _ V s _ 1 (str t) (HV1.out.below hb2) (C_one w1 (str t)) (by have := HT.out; omega) (by have := HLL.out; omega)).mono ?_
      rintro e w2 ⟨A1, A2, c1', c2', rfl, hr1, hr2, hb3⟩
      have hb4 : Below w1.heap.size w1 w2 := hb2.trans (hb3.mono hb2.size)
      have HR1 := Aside0.mk (Kd.R_lower hr1 hb2.size)
      have HR2 := Aside0.mk (Kd.R_lower hr2 hb2.size)
      have HV2 := Aside0.mk (HV1.out.below hb4)
      have HX2 := Aside0.mk (HX1.out.below (by have := HV1.out.lt; have := HV1.out.ge; omega) hb4)
      have HS2 := Aside0.mk hb4.size
      clear hb2 hb3 hb4 hr1 hr2
      go_upto_region 8 with fail
      obtain ⟨W3, hW3⟩ : ∃ W3, W3 = w2.alloc (.cells #[.slice A1 (s.texts.length + 1) c1', .slice A2 s.lits.length c2'] 37) := ⟨_, rfl⟩
      rw [← hW3]
      have hb5 : Below w2.heap.size w2 W3 := by rw [hW3]; exact below_alloc (Below.refl _ _) _
      have hk3 : W3.heap[w2.heap.size]? = some (.cells #[.slice A1 (s.texts.length + 1) c1', .slice A2 s.lits.length c2'] 37 (0, 0)) := by rw [hW3]; exact blk_new _ _
      have HV3 := Aside0.mk (HV2.out.below hb5)
      have HX3 := Aside0.mk (HX2.out.below (by have := HV2.out.lt; have := HV2.out.ge; omega) hb5)
      have HR3 := Aside0.mk (And.intro (Kd.R_below HR1.out hb5) (Kd.R_below HR2.out hb5))
      have HRB := Aside0.mk (show w1.heap.size ≤ w2.heap.size ∧ w2.heap.size < W3.heap.size from ⟨HS2.out, by rw [hW3, sz_alloc]; omega⟩)
      clear hW3 hb5
      generalize w2.heap.size = rB at hk3 HRB ⊢
      go_wp2_with fail
      refine (begin_ok N0 g W3 V s HV3.out).mono ?_
      rintro e w4 ⟨rfl, hw4, hx4⟩
      have hfb : ∀ k, w1.heap.size ≤ k → ¬ FB g V k := fun k hk hf => by have := HV1.out.fb_lt k hf; omega
      have hk4 := (hx4.kept.2 rB HRB.out.2 (hfb rB HRB.out.1)).trans hk3
      have HR4 := Aside0.mk (And.intro (SRow.kept HR3.out.1 hx4.kept hfb) (SRow.kept HR3.out.2 hx4.kept hfb))
      have HV4 := Aside0.mk hw4
      have HX4 := Aside0.mk (HX3.out.trans hx4)
      have HS4 := Aside0.mk (show w1.heap.size ≤ w4.heap.size by have := hx4.kept.1; have := HRB.out; omega)
      have HK4 := Aside0.mk (show w4.heap[rB]? = some (.cells #[.slice A1 (s.texts.length + 1) c1', .slice A2 s.lits.length c2'] 37 (0, 0)) ∧ rB < w4.heap.size ∧ g < w1.heap.size from ⟨hk4, (Array.getElem?_eq_some_iff.1 hk4).1, HV1.out.lt⟩)
      clear hw4 hx4 hfb hk4 hk3 e0 e1 e2 e3 e4 e5 e6 f0 f1 f2 f3 f4 f5 f6 h50b
      cases on with
      | true =>
        obtain ⟨⟨_, _, _, _, e4, e5, e6⟩, _, _, _, _, f4, f5, f6⟩ := HV4.out.all
        go_wp2_with fail
        have HV5 := Aside0.mk (show FW N0 (((w4.setCell ⟨g, 5, none⟩ (.int .i64 n)).setCell ⟨g, 6, none⟩ (.bool true)).setCell ⟨g, 4, none⟩ (.func (.func 36) #[.pointer (some ⟨g, 0, none⟩)] #[])) g vnil { beginS s with left := n, skip := true, md := .skipLit } from HV4.out.put (fun k hk => by rw [set_ne hk, set_ne hk, set_ne hk]) (blk_set (blk_set (blk_set HV4.out.blk 5 _) 6 _) 4 _) (.inl ⟨rfl, rfl⟩) (.inl ⟨rfl, rfl⟩) (.inl ⟨rfl, rfl⟩))
        have HX5 := Aside0.mk ((((FX.refl N0 g w4 vnil).set HV4.out 5 (.int .i64 n)).set HV4.out 6 (.bool true)).set HV4.out 4 (.func (.func 36) #[.pointer (some ⟨g, 0, none⟩)] #[]))
        generalize (((w4.setCell ⟨g, 5, none⟩ (.int .i64 n)).setCell ⟨g, 6, none⟩ (.bool true)).setCell ⟨g, 4, none⟩ (.func (.func 36) #[.pointer (some ⟨g, 0, none⟩)] #[])) = w5 at HV5 HX5 ⊢
        clear e4 e5 e6 f4 f5 f6
        refine (skipped_ok N0 g _ vnil _ HV5.out).mono ?_
        rintro e w6 ⟨rfl, hw6, hx6⟩
        have hx46 := HX5.out.trans hx6
        have hfb : ∀ k, w1.heap.size ≤ k → ¬ FB g vnil k := fun k hk hf => by rw [FB_nil g k hf] at hk; have := HK4.out.2.2; omega
        have hk6 := (hx46.kept.2 rB HK4.out.2.1 (hfb rB HRB.out.1)).trans HK4.out.1
        have d0 := (blk_cell hk6 0).trans (show _ = some (Value.slice A1 (s.texts.length + 1) c1') from rfl)
        have d1 := (blk_cell hk6 1).trans (show _ = some (Value.slice A2 s.lits.length c2') from rfl)
        have HR6 := Aside0.mk (And.intro (SRow.kept HR4.out.1 hx46.kept hfb) (SRow.kept HR4.out.2 hx46.kept hfb))
        have HV6 := Aside0.mk hw6
        have HX6 := Aside0.mk (HX4.out.trans hx46)
        have HS6 := Aside0.mk (show w1.heap.size ≤ w6.heap.size by have := hx46.kept.1; have := HS4.out; omega)
        clear hw6 hx6 hx46 hfb hk6
        go_wp2_with fail
        refine (one_ok 3 A1 A2 _ _ c1' c2' (s.texts ++ [str t]) s.lits w1.heap.size _ HR6.out.1 HR6.out.2 HS6.out).mono ?_
        rintro e w7 ⟨A7, c7, rfl, ho, hb⟩
        have HO := Aside0.mk (EN.of_new (g := g) (V := vnil) ho (show w.heap.size ≤ w1.heap.size from HS1.out) (fun k hk => by rw [FB_nil g k hk]; exact HV1.out.lt))
        have HV7 := Aside0.mk (HV6.out.below hb)
        have HX7 := Aside0.mk (HX6.out.below (by have := HV6.out.lt; have := HV6.out.ge; omega) hb)
        clear ho hb
        go_wp2_with fail
        go_ret
        refine ⟨_, vnil, rfl, ?_, ?_, HX7.out⟩
        · rw [HM.out]; exact HO.out
        · rw [HM.out]; exact HV7.out
      | false =>
        have d0 := (blk_cell HK4.out.1 0).trans (show _ = some (Value.slice A1 (s.texts.length + 1) c1') from rfl)
        have d1 := (blk_cell HK4.out.1 1).trans (show _ = some (Value.slice A2 s.lits.length c2') from rfl)
        go_wp2_with fail
        refine (one_ok 3 A1 A2 _ _ c1' c2' (s.texts ++ [str t]) s.lits w1.heap.size _ HR4.out.1 HR4.out.2 HS4.out).mono ?_
        rintro e w7 ⟨A7, c7, rfl, ho, hb⟩
        have HO := Aside0.mk (EN.of_new (g := g) (V := vnil) ho (show w.heap.size ≤ w1.heap.size from HS1.out) (fun k hk => by rw [FB_nil g k hk]; exact HV1.out.lt))
        have HV7 := Aside0.mk (HV4.out.below hb)
        have HX7 := Aside0.mk (HX4.out.below (by have := HV4.out.lt; have := HV4.out.ge; omega) hb)
        clear ho hb
        go_wp2_with fail
        go_ret
        refine ⟨_, vnil, rfl, ?_, ?_, HX7.out⟩
        · rw [HM.out]; exact HO.out
        · rw [HM.out]; exact HV7.out
    · have h50b := decide_eq_false h50
      by_cases h20 : s.lits.length = 20
      ·
        have h20b : ((s.lits.length : Int) == 20) = true := by rw [h20]; rfl
        have h20c := eq_true h20
        have HM := Aside0.mk (show endLineS s l = (if on = true then skippedS { beginS s with left := n, skip := true, md := .skipLit } else beginS s, [evt 3 (s.texts ++ [str t]) s.lits]) by unfold endLineS; rw [hm]; dsimp only; rw [if_pos (.inr h20)])
        clear hm h50 h20
        go_wp2_with fail
        have hb2 : Below w1.heap.size w1 (w1.alloc (.cells #[.string (str t)] 9)) := below_alloc (Below.refl _ _) _
        refine (raw_ok N0 g _ V s _ 1 (str t) (HV1.out.below hb2) (C_one w1 (str t)) (by have := HT.out; omega) (by have := HLL.out; omega)).mono ?_
        rintro e w2 ⟨A1, A2, c1', c2', rfl, hr1, hr2, hb3⟩
        have hb4 : Below w1.heap.size w1 w2 := hb2.trans (hb3.mono hb2.size)
        have HR1 := Aside0.mk (Kd.R_lower hr1 hb2.size)
        have HR2 := Aside0.mk (Kd.R_lower hr2 hb2.size)
        have HV2 := Aside0.mk (HV1.out.below hb4)
        have HX2 := Aside0.mk (HX1.out.below (by have := HV1.out.lt; have := HV1.out.ge; omega) hb4)
        have HS2 := Aside0.mk hb4.size
        clear hb2 hb3 hb4 hr1 hr2
        go_upto_region 8 with fail
        obtain ⟨W3, hW3⟩ : ∃ W3, W3 = w2.alloc (.cells #[.slice A1 (s.texts.length + 1) c1', .slice A2 s.lits.length c2'] 37) := ⟨_, rfl⟩
        rw [← hW3]
        have hb5 : Below w2.heap.size w2 W3 := by rw [hW3]; exact below_alloc (Below.refl _ _) _
        have hk3 : W3.heap[w2.heap.size]? = some (.cells #[.slice A1 (s.texts.length + 1) c1', .slice A2 s.lits.length c2'] 37 (0, 0)) := by rw [hW3]; exact blk_new _ _
        have HV3 := Aside0.mk (HV2.out.below hb5)
        have HX3 := Aside0.mk (HX2.out.below (by have := HV2.out.lt; have := HV2.out.ge; omega) hb5)
        have HR3 := Aside0.mk (And.intro (Kd.R_below HR1.out hb5) (Kd.R_below HR2.out hb5))
        have HRB := Aside0.mk (show w1.heap.size ≤ w2.heap.size ∧ w2.heap.size < W3.heap.size from ⟨HS2.out, by rw [hW3, sz_alloc]; omega⟩)
        clear hW3 hb5
        generalize w2.heap.size = rB at hk3 HRB ⊢
        go_wp2_with fail
        refine (begin_ok N0 g W3 V s HV3.out).mono ?_
        rintro e w4 ⟨rfl, hw4, hx4⟩
        have hfb : ∀ k, w1.heap.size ≤ k → ¬ FB g V k := fun k hk hf => by have := HV1.out.fb_lt k hf; omega
        have hk4 := (hx4.kept.2 rB HRB.out.2 (hfb rB HRB.out.1)).trans hk3
        have HR4 := Aside0.mk (And.intro (SRow.kept HR3.out.1 hx4.kept hfb) (SRow.kept HR3.out.2 hx4.kept hfb))
        have HV4 := Aside0.mk hw4
        have HX4 := Aside0.mk (HX3.out.trans hx4)
        have HS4 := Aside0.mk (show w1.heap.size ≤ w4.heap.size by have := hx4.kept.1; have := HRB.out; omega)
        have HK4 := Aside0.mk (show w4.heap[rB]? = some (.cells #[.slice A1 (s.texts.length + 1) c1', .slice A2 s.lits.length c2'] 37 (0, 0)) ∧ rB < w4.heap.size ∧ g < w1.heap.size from ⟨hk4, (Array.getElem?_eq_some_iff.1 hk4).1, HV1.out.lt⟩)
        clear hw4 hx4 hfb hk4 hk3 e0 e1 e2 e3 e4 e5 e6 f0 f1 f2 f3 f4 f5 f6 h50b h20b h20c
        cases on with
        | true =>
          obtain ⟨⟨_, _, _, _, e4, e5, e6⟩, _, _, _, _, f4, f5, f6⟩ := HV4.out.all
          go_wp2_with fail
          have HV5 := Aside0.mk (show FW N0 (((w4.setCell ⟨g, 5, none⟩ (.int .i64 n)).setCell ⟨g, 6, none⟩ (.bool true)).setCell ⟨g, 4, none⟩ (.func (.func 36) #[.pointer (some ⟨g, 0, none⟩)] #[])) g vnil { beginS s with left := n, skip := true, md := .skipLit } from HV4.out.put (fun k hk => by rw [set_ne hk, set_ne hk, set_ne hk]) (blk_set (blk_set (blk_set HV4.out.blk 5 _) 6 _) 4 _) (.inl ⟨rfl, rfl⟩) (.inl ⟨rfl, rfl⟩) (.inl ⟨rfl, rfl⟩))
          have HX5 := Aside0.mk ((((FX.refl N0 g w4 vnil).set HV4.out 5 (.int .i64 n)).set HV4.out 6 (.bool true)).set HV4.out 4 (.func (.func 36) #[.pointer (some ⟨g, 0, none⟩)] #[]))
          generalize (((w4.setCell ⟨g, 5, none⟩ (.int .i64 n)).setCell ⟨g, 6, none⟩ (.bool true)).setCell ⟨g, 4, none⟩ (.func (.func 36) #[.pointer (some ⟨g, 0, none⟩)] #[])) = w5 at HV5 HX5 ⊢
          clear e4 e5 e6 f4 f5 f6
          refine (skipped_ok N0 g _ vnil _ HV5.out).mono ?_
          rintro e w6 ⟨rfl, hw6, hx6⟩
          have hx46 := HX5.out.trans hx6
          have hfb : ∀ k, w1.heap.size ≤ k → ¬ FB g vnil k := fun k hk hf => by rw [FB_nil g k hf] at hk; have := HK4.out.2.2; omega
          have hk6 := (hx46.kept.2 rB HK4.out.2.1 (hfb rB HRB.out.1)).trans HK4.out.1
          have d0 := (blk_cell hk6 0).trans (show _ = some (Value.slice A1 (s.texts.length + 1) c1') from rfl)
          have d1 := (blk_cell hk6 1).trans (show _ = some (Value.slice A2 s.lits.length c2') from rfl)
          have HR6 := Aside0.mk (And.intro (SRow.kept HR4.out.1 hx46.kept hfb) (SRow.kept HR4.out.2 hx46.kept hfb))
          have HV6 := Aside0.mk hw6
          have HX6 := Aside0.mk (HX4.out.trans hx46)
          have HS6 := Aside0.mk (show w1.heap.size ≤ w6.heap.size by have := hx46.kept.1; have := HS4.out; omega)
          clear hw6 hx6 hx46 hfb hk6
          go_wp2_with fail
          refine (one_ok 3 A1 A2 _ _ c1' c2' (s.texts ++ [str t]) s.lits w1.heap.size _ HR6.out.1 HR6.out.2 HS6.out).mono ?_
          rintro e w7 ⟨A7, c7, rfl, ho, hb⟩
          have HO := Aside0.mk (EN.of_new (g := g) (V := vnil) ho (show w.heap.size ≤ w1.heap.size from HS1.out) (fun k hk => by rw [FB_nil g k hk]; exact HV1.out.lt))
          have HV7 := Aside0.mk (HV6.out.below hb)
          have HX7 := Aside0.mk (HX6.out.below (by have := HV6.out.lt; have := HV6.out.ge; omega) hb)
          clear ho hb
          go_wp2_with fail
          go_ret
          refine ⟨_, vnil, rfl, ?_, ?_, HX7.out⟩
          · rw [HM.out]; exact HO.out
          · rw [HM.out]; exact HV7.out
        | false =>
          have d0 := (blk_cell HK4.out.1 0).trans (show _ = some (Value.slice A1 (s.texts.length + 1) c1') from rfl)
          have d1 := (blk_cell HK4.out.1 1).trans (show _ = some (Value.slice A2 s.lits.length c2') from rfl)
          go_wp2_with fail
          refine (one_ok 3 A1 A2 _ _ c1' c2' (s.texts ++ [str t]) s.lits w1.heap.size _ HR4.out.1 HR4.out.2 HS4.out).mono ?_
          rintro e w7 ⟨A7, c7, rfl, ho, hb⟩
          have HO := Aside0.mk (EN.of_new (g := g) (V := vnil) ho (show w.heap.size ≤ w1.heap.size from HS1.out) (fun k hk => by rw [FB_nil g k hk]; exact HV1.out.lt))
          have HV7 := Aside0.mk (HV4.out.below hb)
          have HX7 := Aside0.mk (HX4.out.below (by have := HV4.out.lt; have := HV4.out.ge; omega) hb)
          clear ho hb
          go_wp2_with fail
          go_ret
          refine ⟨_, vnil, rfl, ?_, ?_, HX7.out⟩
          · rw [HM.out]; exact HO.out
          · rw [HM.out]; exact HV7.out
      · have h20b : ((s.lits.length : Int) == 20) = false := beq_eq_false_iff_ne.mpr (by omega)
        have h20c := eq_false h20
        have HM := Aside0.mk (show endLineS s l = (endedS { s with size := s.size + l.length, texts := s.texts ++ [str t], line := [], left := n, md := .lit }, if on = true then [] else [evt 2 [] []]) by unfold endLineS; rw [hm]; dsimp only; rw [if_neg (by omega)])
        obtain ⟨z, hz⟩ : ∃ z, wrap64 (s.size + (l.length : Int)) = z := ⟨_, rfl⟩
        have hzw : IntKind.i64.wrap (s.size + (l.length : Int)) = z := (i64_w _).trans hz
        have HZ := Aside0.mk (show z = s.size + l.length by have := HSZ.out; have := HL.out; rw [← hz]; unfold wrap64; omega)
        have HN := Aside0.mk (markS_n hm)
        clear hm h50 h20 hz
        obtain ⟨At, ct, et⟩ := Kd.R_slice HV1.out.rt
        rw [et] at e0
        have hsl : (str l).size = l.length := rfl
        go_upto_region 15 with fail
        have HVa := Aside0.mk (show FW N0 (w1.setCell ⟨g, 3, none⟩ (.int .i64 z)) g V { s with size := z } from HV1.out.put (fun k hk => set_ne hk) (blk_set HV1.out.blk 3 _) (.inl ⟨rfl, rfl⟩) (.inl ⟨rfl, rfl⟩) (.inl ⟨rfl, rfl⟩))
        have HXa := Aside0.mk (HX1.out.set HV.out 3 (.int .i64 z))
        have HSa := Aside0.mk (show w.heap.size ≤ (w1.setCell ⟨g, 3, none⟩ (.int .i64 z)).heap.size by rw [World.size_setCell]; exact HS1.out)
        clear e0 e1 e2 e3 e4 e5 e6 f0 f1 f2 f3 f4 f5 f6
        generalize w1.setCell ⟨g, 3, none⟩ (.int .i64 z) = wa at HVa HXa HSa ⊢
        obtain ⟨⟨e0, e1, e2, e3, e4, e5, e6⟩, f0, f1, f2, f3, f4, f5, f6⟩ := HVa.out.all
        rw [et] at e0
        have HET := Aside0.mk et
        clear et
        go_wp2_with (first | ((with_reducible refine gate_builtin (b := .append) (xs := #[.tmp 84, .tmp 86]) rfl ?_); (try (refine gate_guard (by rfl) ?_; dsimp only)); at_builtin; refine Kd.R_append Kd.string (w0 := w) N0 rfl (.tmp 84) (.tmp 86) 35 9 (.string ⟨#[]⟩) 16 rfl Tryd.underlying35 infS rfl (by decide) (by omega) (.slice At s.texts.length ct) s.texts (str t) [.string (str t)] (fun _ => True) (fun _ => False) rfl ?aX ?aP (fun _ hk => hk.elim) ?aF ?aO ?aB ?aS ?aL ?_; (case aX => exact rfl); (case aP => exact rfl); (case aF => exact (fun _ _ => trivial)); (case aO => have h := HVa.out.rt; rw [HET.out] at h; exact h); (case aB => exact HXa.out.bel); (case aS => have := HVa.out.lt; have := HVa.out.ge; omega); (case aL => have := HT.out; omega); intro v9 w9 ho hb hg hat; rw [← HET.out] at hg hat; obtain ⟨m9, hm9⟩ : ∃ m9, m9 = (s.texts ++ [str t]).length := ⟨_, rfl⟩; obtain ⟨A9, c9, e9⟩ := Kd.R_slice ho; rw [← hm9] at e9; subst e9; clear hm9; obtain ⟨⟨g0, g1, g2, g3, g4, g5, g6⟩, k0, k1, k2, k3, k4, k5, k6⟩ := fall (HVa.out.g1T hg); have HV9 := Aside0.mk (HVa.out.appT hg hat ho); have HX9 := Aside0.mk (HXa.out.appT HVa.out hb hg hat); clear ho hb hg hat))
        have HVb := Aside0.mk (show FW N0 ((((w9.setCell ⟨g, 0, none⟩ (.slice A9 m9 c9)).setCell ⟨g, 2, none⟩ (.slice none 0 0)).setCell ⟨g, 5, none⟩ (.int .i64 n)).setCell ⟨g, 4, none⟩ (.func (.func 38) #[.pointer (some ⟨g, 0, none⟩)] #[])) g ⟨.slice A9 m9 c9, V.l, .slice none 0 0⟩ { s with size := z, texts := s.texts ++ [str t], line := [], left := n, md := .lit } from HV9.out.put (fun k hk => by rw [set_ne hk, set_ne hk, set_ne hk]) (blk_set (blk_set (blk_set HV9.out.blk 2 _) 5 _) 4 _) (.inl ⟨rfl, rfl⟩) (.inl ⟨rfl, rfl⟩) (.inr ⟨rfl, rfl⟩))
        have HXb := Aside0.mk ((((HX9.out.set HV.out 2 (.slice none 0 0)).set HV.out 5 (.int .i64 n)).set HV.out 4 (.func (.func 38) #[.pointer (some ⟨g, 0, none⟩)] #[])).val (V2 := ⟨.slice A9 m9 c9, V.l, .slice none 0 0⟩) (.inl rfl) (.inl rfl) (.inr rfl))
        generalize ((((w9.setCell ⟨g, 0, none⟩ (.slice A9 m9 c9)).setCell ⟨g, 2, none⟩ (.slice none 0 0)).setCell ⟨g, 5, none⟩ (.int .i64 n)).setCell ⟨g, 4, none⟩ (.func (.func 38) #[.pointer (some ⟨g, 0, none⟩)] #[])) = wb at HVb HXb ⊢
        clear e0 e1 e2 e3 e4 e5 e6 f0 f1 f2 f3 f4 f5 f6 g0 g1 g2 g3 g4 g5 g6 k0 k1 k2 k3 k4 k5 k6
        refine (ended_ok N0 g _ _ _ HVb.out (by have := HLL.out; dsimp only; omega)).mono ?_
        rintro e w6 ⟨rfl, V6, hw6, hx6⟩
        have HV6 := Aside0.mk hw6
        have HX6 := Aside0.mk (HXb.out.trans hx6)
        clear hw6 hx6
        cases on with
        | true =>
          go_wp2_with fail
          go_ret
          refine ⟨_, V6, rfl, ?_, ?_, HX6.out⟩
          · rw [HM.out]; exact Kd.N_nil _ _ _ _ _
          · rw [HM.out, ← HZ.out]; exact HV6.out
        | false =>
          go_wp2_with fail
          refine (one_ok 2 none none 0 0 0 0 [] [] w6.heap.size _ (Kd.R_nil _ _ _ _ _) (Kd.R_nil _ _ _ _ _) (Nat.le_refl _)).mono ?_
          rintro e w7 ⟨A7, c7, rfl, ho, hb⟩
          have HO := Aside0.mk (EN.of_new (g := g) (V := V6) ho (show w.heap.size ≤ w6.heap.size from HX6.out.kept.1) (fun k hk => HV6.out.fb_lt k hk))
          have HV7 := Aside0.mk (HV6.out.below hb)
          have HX7 := Aside0.mk (HX6.out.below (by have := HV6.out.lt; have := HV6.out.ge; omega) hb)
          clear ho hb
          go_wp2_with fail
          go_ret
          refine ⟨_, V6, rfl, ?_, ?_, HX7.out⟩
          · rw [HM.out]; exact HO.out
          · rw [HM.out, ← HZ.out]; exact HV7.out
end Go.Proofs.YtakfdmhoooeejaaDoor.PP
