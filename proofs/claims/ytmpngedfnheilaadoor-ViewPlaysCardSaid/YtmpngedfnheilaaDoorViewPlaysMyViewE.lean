/- YtmpngedfnheilaaDoorMyViewE, as far as ViewPlays needs it (prune.py). -/
import Derived.Test.YtmpngedfnheilaaDoorViewPlaysMyViewD
namespace Go.Proofs.YtmpngedfnheilaaDoor.PP
open Go.RowKit Go.Proofs.YtmpngedfnheilaaDoorW.PrintWords Go.Proofs.YtmpngedfnheilaaDoorW.PrintLast Go.Proofs.YtmpngedfnheilaaDoorW.PrintMore
open Go.Proofs.YtmpngedfnheilaaDoor.My
set_option linter.unusedVariables false
set_option linter.unusedSimpArgs false
abbrev Ml := S43
/-- The messages by rising UID. -/
def risL : List Ml → Int → List Ml
  | [], _ => []
  | m :: ms, t => if t < m.f0 then m :: risL ms m.f0 else risL ms t
theorem risL_drop (l : List Ml) (i : Nat) (h : i < l.length) (t : Int) : risL (l.drop i) t = if t < (rd_T43 l i).f0 then rd_T43 l i :: risL (l.drop (i + 1)) (rd_T43 l i).f0 else risL (l.drop (i + 1)) t := by
  have e : l.drop i = rd_T43 l i :: l.drop (i + 1) := by
    rw [List.drop_eq_getElem_cons h]
    unfold rd_T43
    simp [List.getD_eq_getElem?_getD, List.getElem?_eq_getElem h]
  rw [e]
  rfl
abbrev mcs (m : Ml) (A1 : Option Addr) (c1 : Nat) : List Value := [.int .i64 m.f0, .slice A1 m.f1.length c1, .int .i64 m.f2.f0, .int .i64 m.f2.f1, .int .i64 m.f2.f2, .int .i64 m.f2.f3, .int .i64 m.f2.f4, .int .i64 m.f2.f5, .int .i64 m.f2.f6, .string m.f3, .int .i64 m.f4, .int .i64 m.f5]
theorem mcells {w : World} {b : Nat} {m : Ml} {A1 : Option Addr} {c1 : Nat} (h : w.heap[b]? = some (.cells (mcs m A1 c1).toArray 43 (0, 0))) :
    w.cell? ⟨b, 0, none⟩ = some (.int .i64 m.f0) ∧ w.cell? ⟨b, 1, none⟩ = some (.slice A1 m.f1.length c1) ∧ w.cell? ⟨b, 2, none⟩ = some (.int .i64 m.f2.f0) ∧ w.cell? ⟨b, 3, none⟩ = some (.int .i64 m.f2.f1) ∧ w.cell? ⟨b, 4, none⟩ = some (.int .i64 m.f2.f2) ∧ w.cell? ⟨b, 5, none⟩ = some (.int .i64 m.f2.f3) ∧ w.cell? ⟨b, 6, none⟩ = some (.int .i64 m.f2.f4) ∧ w.cell? ⟨b, 7, none⟩ = some (.int .i64 m.f2.f5) ∧ w.cell? ⟨b, 8, none⟩ = some (.int .i64 m.f2.f6) ∧ w.cell? ⟨b, 9, none⟩ = some (.string m.f3) ∧ w.cell? ⟨b, 10, none⟩ = some (.int .i64 m.f4) ∧ w.cell? ⟨b, 11, none⟩ = some (.int .i64 m.f5) :=
  ⟨(blk_cell h 0).trans rfl, (blk_cell h 1).trans rfl, (blk_cell h 2).trans rfl, (blk_cell h 3).trans rfl, (blk_cell h 4).trans rfl, (blk_cell h 5).trans rfl, (blk_cell h 6).trans rfl, (blk_cell h 7).trans rfl, (blk_cell h 8).trans rfl, (blk_cell h 9).trans rfl, (blk_cell h 10).trans rfl, (blk_cell h 11).trans rfl⟩
/-- The last of those that were taken: t is its UID. -/
def LastIs (out : List Ml) (t : Int) : Prop := (out = [] ∧ t = 0) ∨ (out ≠ [] ∧ 1 ≤ t ∧ (rd_T43 out ((out.length : Int) - 1)).f0 = t)
theorem LastIs.snoc (out : List Ml) (m : Ml) (h : 1 ≤ m.f0) : LastIs (out ++ [m]) m.f0 := by
  refine .inr ⟨by simp, h, ?_⟩
  unfold rd_T43
  simp [List.getD_eq_getElem?_getD]
set_option maxHeartbeats 4000000 in
set_option maxRecDepth 100000 in
theorem rising_ok (P : Nat → Prop) (A : Option Addr) (c : Nat) (l : List Ml) (w : World) (hF : Kd.F k43 w P A l.length l) (hl : l.length ≤ 1000000000) :
    Calls Tryd.prog 36 #[.slice A l.length c] w fun e w' => ∃ v0 : Value, e = .returned v0 ∧ Kd.N k43 43 w' w.heap.size (fun k => P k ∨ w.heap.size ≤ k) v0 (risL l 0) ∧ Below w.heap.size w w' := by
  have HF := Aside0.mk hF
  have HL := Aside0.mk hl
  clear hF hl
  go_enter Tryd.func36, Tryd.ntmps36
  go_wp2_with fail
  go_loopg [3, 8] l.length (fun kq v3 v8 wr => ∃ (x : Int) (i : Nat) (out : List Ml) (t : Int), v8 = .int .i64 x ∧ Aside0 (x = i ∧ i + kq = l.length) ∧ Aside0 (out ++ risL (l.drop i) t = risL l 0) ∧ Aside0 (LastIs out t ∧ out.length ≤ i) ∧ Aside0 (Kd.N k43 43 wr w.heap.size (fun k => P k ∨ w.heap.size ≤ k) v3 out) ∧ Aside0 (Below w.heap.size w wr))
  case atStart => exact ⟨0, 0, [], 0, rfl, ⟨rfl, by omega⟩, ⟨rfl⟩, ⟨.inl ⟨rfl, rfl⟩, by simp⟩, ⟨Kd.N_nil _ _ _ _ _⟩, ⟨Below.refl _ _⟩⟩
  case round =>
    obtain ⟨x, i, out, t, rfl, HX, HE, HT, HR, HW⟩ := hrel
    cases gk with
    | zero =>
      have c1b : decide (x < (l.length : Int)) = false := decide_eq_false (by have := HX.out; omega)
      have HD := HE.out
      rw [List.drop_of_length_le (by have := HX.out; omega)] at HD
      have HD := Aside0.mk ((List.append_nil out).symm.trans HD)
      go_wp2_with fail
      go_ret
      exact ⟨_, rfl, HD.out ▸ HR.out, HW.out⟩
    | succ k1 =>
      have q1 : x < (l.length : Int) := by have := HX.out; omega
      have q0 : 0 ≤ x := by have := HX.out; omega
      have c1b : decide (x < (l.length : Int)) = true := decide_eq_true q1
      have HF1 := Aside0.mk (Kd.F_old HF.out HW.out)
      obtain ⟨ad, cs, rfl, hcl, hK, hcc, _⟩ := Kd.F_get HF1.out z43 x q0 q1
      obtain ⟨A1, c1, rfl, hl1, hf1⟩ := k43_openF hK
      obtain ⟨ad', A1', c1', e', hx0, hx1, hx2, hx3, hx4, hx5, hx6, hx7, hx8, hx9, hx10, hx11, hla, hia⟩ := at_T43 (Kd.F_now HF1.out) x q0 q1
      cases e'
      have hv := hcc 1 _ rfl
      rw [add_field _ _ 1 (by omega)] at hv
      replace hv := Option.some.inj (hv.symm.trans hx1)
      rw [← hv] at hx1
      clear hv hcc hcl hf1 hla hia A1' c1'
      have HK := Aside0.mk (show Kd.FK k43 wr _ (rd_T43 l x) (mcs (rd_T43 l x) A1 c1) from hK)
      replace hx1 : wr.cell? ⟨(ad.add (x.toNat * 12)).block, (ad.add (x.toNat * 12)).off + 1, none⟩ = some (.slice A1 (rd_T43 l x).f1.length c1) := hx1
      clear hK hl1
      have HS := risL_drop l i (by have := HX.out; omega) t
      rw [show (i : Int) = x by have := HX.out; omega] at HS
      have hE := HE.out
      rw [HS] at hE
      have q0b := eq_true q0
      have q1b := eq_true q1
      clear q0 q1 HS HE
      generalize rd_T43 l x = m at hE hx0 hx1 hx2 hx3 hx4 hx5 hx6 hx7 hx8 hx9 hx10 hx11 HK
      have HE := Aside0.mk hE
      clear hE
      go_wp2_with fail
      obtain ⟨W5, hW5⟩ : ∃ W5, W5 = wr.alloc (.cells (mcs m A1 c1).toArray 43) := ⟨_, rfl⟩
      rw [← hW5]
      have hblk : W5.heap[wr.heap.size]? = some (.cells (mcs m A1 c1).toArray 43 (0, 0)) := by rw [hW5]; exact blk_new _ _
      have HR5 := Aside0.mk (show Kd.N k43 43 W5 w.heap.size (fun k => P k ∨ w.heap.size ≤ k) u3 out by rw [hW5]; exact Kd.N_alloc HR.out _)
      have HB := Aside0.mk (show Below w.heap.size w W5 by rw [hW5]; exact below_alloc HW.out _)
      replace HK := Aside0.mk (show Kd.FK k43 W5 _ m (mcs m A1 c1) by rw [hW5]; exact Kd.FK_below HK.out (below_alloc (Below.refl _ _) _))
      obtain ⟨m0, m1, m2, m3, m4, m5, m6, m7, m8, m9, m10, m11⟩ := mcells hblk
      have HN := Aside0.mk (fun k (hk : k < w.heap.size) => (fun he => by have := Kd.N_base HR.out k he.symm; omega : some k ≠ u3.ownBlock))
      generalize wr.heap.size = mB at m0 m1 m2 m3 m4 m5 m6 m7 m8 m9 m10 m11 ⊢
      clear hx0 hx1 hx2 hx3 hx4 hx5 hx6 hx7 hx8 hx9 hx10 hx11 hblk hW5 HR HW HF1 wr
      obtain ⟨Ao, co, eo⟩ := Kd.N_slice HR5.out
      subst eo
      have HLO := Aside0.mk (show out.length < 17592186044 by have := HL.out; have := HX.out; have := HT.out; omega)
      have ht0 : 0 ≤ t := by have := HT.out.1; unfold LastIs at this; omega
      by_cases d1 : 1 ≤ m.f0
      · have d1b : decide (1 ≤ m.f0) = true := decide_eq_true d1
        by_cases d2 : out = []
        · have d2b : ((out.length : Int) == 0) = true := by rw [d2]; rfl
          have d2c : t = 0 := by have := HT.out.1; unfold LastIs at this; rcases this with h | h; exact h.2; exact absurd d2 h.1
          have hE := HE.out
          rw [if_pos (show t < m.f0 by omega)] at hE
          have HE := Aside0.mk ((List.append_assoc out [m] _).trans hE)
          have HD := Aside0.mk d1
          clear d1 d2 d2c hE ht0
          go_wp2_with fail
          repeat (go_quiet (fail))
          go_wp2_with (first | ((with_reducible refine gate_builtin (b := .append) (xs := #[.tmp 32, .tmp 34]) rfl ?_); (try (refine gate_guard (by rfl) ?_; dsimp only)); at_builtin; refine Kd.N_append k43 (w0 := w) w.heap.size rfl (.tmp 32) (.tmp 34) 22 43 (.agg #[(.int .i64 0), (.slice none 0 0), (.int .i64 0), (.int .i64 0), (.int .i64 0), (.int .i64 0), (.int .i64 0), (.int .i64 0), (.int .i64 0), (.string ⟨#[]⟩), (.int .i64 0), (.int .i64 0)]) 120 rfl Tryd.underlying22 info43 rfl (by decide) (by omega) (.slice Ao out.length co) out m (mcs m A1 c1) (fun k => P k ∨ w.heap.size ≤ k) (fun k => P k ∧ k < w.heap.size) rfl rfl ?aP (fun k hk => ⟨.inl hk.1, HN.out k hk.2⟩) ?aF ?aO ?aB ?aS ?aL ?_; (case aP => exact Kd.FK_below HK.out (by repeat (first | exact Below.refl _ _ | apply pw_below_drewN))); (case aB => exact (by repeat (first | exact HB.out | apply pw_below_drewN))); (case aF => exact (fun k hk => .inr (Nat.le_trans (below_size (by repeat (first | exact HB.out | apply pw_below_drewN))) hk))); (case aO => exact (by repeat (first | exact HR5.out | apply Kd.N_drewN))); (case aS => exact (below_size (by repeat (first | exact HB.out | apply pw_below_drewN)))); (case aL => have := HLO.out; omega); intro v35 w6 ho hb hg hat; have HR6 := Aside0.mk ho; have HB6 := Aside0.mk hb; clear ho hb hg hat))
          go_roundg k1
          case measure => omega
          case rel => exact ⟨wrap64 (x + 1), i + 1, out ++ [m], m.f0, rfl, ⟨by have := HX.out; have := HL.out; unfold wrap64; omega⟩, HE, ⟨LastIs.snoc out m HD.out, by have := HT.out.2; simp; omega⟩, HR6, HB6⟩
        · have hlen : out.length ≠ 0 := fun h => d2 (List.length_eq_zero_iff.1 h)
          have d2b : ((out.length : Int) == 0) = false := beq_eq_false_iff_ne.mpr (by omega)
          have d2c : (rd_T43 out ((out.length : Int) - 1)).f0 = t := by have := HT.out.1; unfold LastIs at this; rcases this with h | h; exact absurd h.1 d2; exact h.2.2
          obtain ⟨j, hj⟩ : ∃ j, wrap64 ((out.length : Int) - 1) = j := ⟨_, rfl⟩
          have hlo := HLO.out
          have hj2 : (out.length : Int) - 1 = j := by rw [← hj]; unfold wrap64; omega
          have hjw : IntKind.i64.wrap ((out.length : Int) - 1) = j := (i64_w _).trans hj
          rw [hj2] at d2c
          have p0 : 0 ≤ j := by omega
          have p1 : j < (out.length : Int) := by omega
          obtain ⟨ad2, A2, c2, rfl, hy0, _⟩ := at_T43 (Kd.N_reads' HR5.out).2.2 j p0 p1
          rw [d2c] at hy0
          replace p0 := eq_true p0
          replace p1 := eq_true p1
          clear hlo hj hj2 d2c d2 hlen
          by_cases d3 : t < m.f0
          · have d3b : decide (t < m.f0) = true := decide_eq_true d3
            have hE := HE.out
            rw [if_pos d3] at hE
            have HE := Aside0.mk ((List.append_assoc out [m] _).trans hE)
            have HD := Aside0.mk d1
            generalize hao : some ad2 = Ao at HR5 HN ⊢
            subst hao
            clear d1 d3 hE ht0
            go_wp2_with fail
            repeat (go_quiet (fail))
            go_wp2_with (first | ((with_reducible refine gate_builtin (b := .append) (xs := #[.tmp 32, .tmp 34]) rfl ?_); (try (refine gate_guard (by rfl) ?_; dsimp only)); at_builtin; refine Kd.N_append k43 (w0 := w) w.heap.size rfl (.tmp 32) (.tmp 34) 22 43 (.agg #[(.int .i64 0), (.slice none 0 0), (.int .i64 0), (.int .i64 0), (.int .i64 0), (.int .i64 0), (.int .i64 0), (.int .i64 0), (.int .i64 0), (.string ⟨#[]⟩), (.int .i64 0), (.int .i64 0)]) 120 rfl Tryd.underlying22 info43 rfl (by decide) (by omega) (.slice (some ad2) out.length co) out m (mcs m A1 c1) (fun k => P k ∨ w.heap.size ≤ k) (fun k => P k ∧ k < w.heap.size) rfl rfl ?aP (fun k hk => ⟨.inl hk.1, HN.out k hk.2⟩) ?aF ?aO ?aB ?aS ?aL ?_; (case aP => exact Kd.FK_below HK.out (by repeat (first | exact Below.refl _ _ | apply pw_below_drewN))); (case aB => exact (by repeat (first | exact HB.out | apply pw_below_drewN))); (case aF => exact (fun k hk => .inr (Nat.le_trans (below_size (by repeat (first | exact HB.out | apply pw_below_drewN))) hk))); (case aO => exact (by repeat (first | exact HR5.out | apply Kd.N_drewN))); (case aS => exact (below_size (by repeat (first | exact HB.out | apply pw_below_drewN)))); (case aL => have := HLO.out; omega); intro v35 w6 ho hb hg hat; have HR6 := Aside0.mk ho; have HB6 := Aside0.mk hb; clear ho hb hg hat))
            go_roundg k1
            case measure => omega
            case rel => exact ⟨wrap64 (x + 1), i + 1, out ++ [m], m.f0, rfl, ⟨by have := HX.out; have := HL.out; unfold wrap64; omega⟩, HE, ⟨LastIs.snoc out m HD.out, by have := HT.out.2; simp; omega⟩, HR6, HB6⟩
          · have d3b : decide (t < m.f0) = false := decide_eq_false d3
            have hE := HE.out
            rw [if_neg d3] at hE
            have HE := Aside0.mk hE
            clear d1 d3 hE ht0
            go_wp2_with fail
            repeat (go_quiet (fail))
            go_wp2_with fail
            go_roundg k1
            case measure => omega
            case rel => exact ⟨wrap64 (x + 1), i + 1, out, t, rfl, ⟨by have := HX.out; have := HL.out; unfold wrap64; omega⟩, HE, ⟨HT.out.1, by have := HT.out.2; omega⟩, ⟨by repeat (first | exact HR5.out | apply Kd.N_drewN)⟩, ⟨by repeat (first | exact HB.out | apply pw_below_drewN)⟩⟩
      · have d1b : decide (1 ≤ m.f0) = false := decide_eq_false d1
        have hE := HE.out
        rw [if_neg (show ¬ t < m.f0 by omega)] at hE
        have HE := Aside0.mk hE
        clear d1 hE ht0
        go_wp2_with fail
        repeat (go_quiet (fail))
        go_wp2_with fail
        go_roundg k1
        case measure => omega
        case rel => exact ⟨wrap64 (x + 1), i + 1, out, t, rfl, ⟨by have := HX.out; have := HL.out; unfold wrap64; omega⟩, HE, ⟨HT.out.1, by have := HT.out.2; omega⟩, ⟨by repeat (first | exact HR5.out | apply Kd.N_drewN)⟩, ⟨by repeat (first | exact HB.out | apply pw_below_drewN)⟩⟩
end Go.Proofs.YtmpngedfnheilaaDoor.PP
