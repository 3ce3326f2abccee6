/- YtmpngedfnheilaaDoorMyViewFo, as far as ViewPlays needs it (prune.py). -/
import Derived.Test.YtmpngedfnheilaaDoorViewPlaysMyViewM
import Derived.Test.YtmpngedfnheilaaDoorViewPlaysMyViewR
namespace Go.Proofs.YtmpngedfnheilaaDoor.PP
open Go.RowKit Go.Proofs.YtmpngedfnheilaaDoorW.PrintWords Go.Proofs.YtmpngedfnheilaaDoorW.PrintLast Go.Proofs.YtmpngedfnheilaaDoorW.PrintMore
open Go.Proofs.YtmpngedfnheilaaDoor.My
set_option linter.unusedVariables false
set_option linter.unusedSimpArgs false
/-- What a client makes of what it is told. -/
def folL : List Tl → List Int → List Int → List Int × Bool
  | [], own, _ => (own, true)
  | t :: ts, own, fresh =>
    if t.f0 = 1 ∧ 1 ≤ t.f1 ∧ t.f1 ≤ (own.length : Int) then folL ts (own.eraseIdx (t.f1 - 1).toNat) fresh
    else if t.f0 = 2 ∧ (own.length : Int) ≤ t.f1 ∧ t.f1 - (own.length : Int) ≤ (fresh.length : Int) then folL ts (own ++ fresh.take (t.f1 - (own.length : Int)).toNat) (fresh.drop (t.f1 - (own.length : Int)).toNat)
    else if t.f0 = 3 ∧ 1 ≤ t.f1 ∧ t.f1 ≤ (own.length : Int) then folL ts own fresh
    else (own, false)
theorem folL_drop (l : List Tl) (i : Nat) (h : i < l.length) (own fresh : List Int) : folL (l.drop i) own fresh = folL (rd_T65 l i :: l.drop (i + 1)) own fresh := by
  have e : l.drop i = rd_T65 l i :: l.drop (i + 1) := by
    rw [List.drop_eq_getElem_cons h]
    unfold rd_T65
    simp [List.getD_eq_getElem?_getD, List.getElem?_eq_getElem h]
  rw [e]
theorem bd64 {a : Int} (h : (Lit.int .i64 a).wf = true) : -9223372036854775808 ≤ a ∧ a ≤ 9223372036854775807 := by
  simp [Lit.wf] at h
  exact ⟨h.1, by omega⟩
theorem rd_mem65 (l : List Tl) (i : Nat) (h : i < l.length) : rd_T65 l i ∈ l := by
  unfold rd_T65
  simp [List.getD_eq_getElem?_getD, List.getElem?_eq_getElem h]
set_option maxHeartbeats 8000000 in
set_option maxRecDepth 100000 in
theorem viewFollow_ok (A0 : Option Addr) (c0 : Nat) (l0 : List Int) (A1 : Option Addr) (c1 : Nat) (l1 : List Int) (A2 : Option Addr) (c2 : Nat) (l2 : List Tl) (w : World) (hr0 : Kd.C (Kd.int .i64) w A0 l0.length l0)
    (hr1 : Kd.C (Kd.int .i64) w A1 l1.length l1) (hc1 : l1.length ≤ c1) (hr2 : Kd.C k65 w A2 l2.length l2) (hq : ∀ z ∈ l2, -9223372036854775808 ≤ z.f1 ∧ z.f1 ≤ 9223372036854775807) (hl : l0.length + l1.length ≤ 1000000) (hl2 : l2.length ≤ 1000000) :
    Calls Tryd.prog 30 #[.slice A0 l0.length c0, .slice A1 l1.length c1, .slice A2 l2.length c2] w fun e w' => ∃ v0 : Value, e = .returned (.tuple #[v0, .bool (folL l2 l0 l1).2]) ∧ IRow w' w.heap.size v0 (folL l2 l0 l1).1 ∧ Below w.heap.size w w' := by
  have HR0 := Aside0.mk hr0
  have HR1 := Aside0.mk hr1
  have HR2 := Aside0.mk hr2
  have HQ := Aside0.mk hq
  have HL := Aside0.mk hl
  have HL2 := Aside0.mk hl2
  have HC1 := Aside0.mk (show l1.length ≤ c1 ∧ 0 ≤ c1 from ⟨hc1, Nat.zero_le _⟩)
  clear hr0 hr1 hr2 hq hl hl2 hc1
  go_enter Tryd.func30, Tryd.ntmps30
  go_wp2_with fail
  refine (intClone_ok A0 c0 l0 _ HR0.out (by have := HL.out; omega)).mono ?_
  rintro e w1 ⟨v1, rfl, ho1, hb1⟩
  have HO1 := Aside0.mk ho1
  have HB1 := Aside0.mk hb1
  clear ho1 hb1
  go_wp2_with fail
  go_loopg [1, 8, 16] l2.length (fun kq v1 v8 v16 wr => ∃ (x : Int) (i : Nat) (own fresh : List Int) (Af : Option Addr) (cf : Nat), v16 = .int .i64 x ∧ v1 = .slice Af fresh.length cf ∧ Aside0 (x = i ∧ i + kq = l2.length ∧ own.length + fresh.length ≤ l0.length + l1.length) ∧ Aside0 (folL (l2.drop i) own fresh = folL l2 l0 l1) ∧ Aside0 (IRow wr w.heap.size v8 own) ∧ Aside0 (Kd.C (Kd.int .i64) w Af fresh.length fresh ∧ fresh.length ≤ cf ∧ 0 ≤ cf) ∧ Aside0 (Below w.heap.size w wr))
  case atStart => exact ⟨0, 0, l0, l1, A1, c1, rfl, rfl, ⟨rfl, by omega, Nat.le_refl _⟩, ⟨rfl⟩, HO1, ⟨HR1.out, HC1.out.1, HC1.out.2⟩, HB1⟩
  case round =>
    obtain ⟨x, i, own, fresh, Af, cf, rfl, rfl, HX, HE, HO, HF, HB⟩ := hrel
    clear HO1 HB1
    cases gk with
    | zero =>
      have c1b : decide (x < (l2.length : Int)) = false := decide_eq_false (by have := HX.out; omega)
      have hD := HE.out
      rw [List.drop_of_length_le (by have := HX.out; omega)] at hD
      have HD := Aside0.mk hD
      clear hD
      go_wp2_with fail
      go_ret2
      exact ⟨u8, by rw [← HD.out]; rfl, by rw [← HD.out]; exact HO.out, HB.out⟩
    | succ k1 =>
      have q1 : x < (l2.length : Int) := by have := HX.out; omega
      have q0 : 0 ≤ x := by have := HX.out; omega
      have c1b : decide (x < (l2.length : Int)) = true := decide_eq_true q1
      obtain ⟨ad, A5, c5, rfl, hx0, hx1, hx2, hl5, hi5⟩ := at_T65 HR2.out x q0 q1
      replace hx0 := (HB.out.cell (World.block_lt_of_cell? w _ hx0)).trans hx0
      replace hx1 := (HB.out.cell (World.block_lt_of_cell? w _ hx1)).trans hx1
      replace hx2 := (HB.out.cell (World.block_lt_of_cell? w _ hx2)).trans hx2
      have hqq := HQ.out (rd_T65 l2 x) (by
        have := rd_mem65 l2 i (by have := HX.out; omega)
        rwa [show (i : Int) = x by have := HX.out; omega] at this)
      have hE := HE.out
      rw [folL_drop l2 i (by have := HX.out; omega), show (i : Int) = x by have := HX.out; omega] at hE
      generalize rd_T65 l2 x = p at hE hx0 hx1 hx2 hl5 hqq
      have HQP := Aside0.mk (show -9223372036854775808 ≤ p.f1 ∧ p.f1 ≤ 9223372036854775807 from hqq)
      have q0b := eq_true q0
      have q1b := eq_true q1
      clear q0 q1 hl5 hi5 hqq HE
      have HE := Aside0.mk hE
      clear hE
      go_upto_region 6 with fail
      obtain ⟨W5, hW5⟩ : ∃ W5, W5 = wr.alloc (.cells #[.int .i64 p.f0, .int .i64 p.f1, .slice A5 p.f2.length c5] 65) := ⟨_, rfl⟩
      rw [← hW5]
      have hblk : W5.heap[wr.heap.size]? = some (.cells #[.int .i64 p.f0, .int .i64 p.f1, .slice A5 p.f2.length c5] 65 (0, 0)) := by rw [hW5]; exact blk_new _ _
      have hb5 : Below wr.heap.size wr W5 := by rw [hW5]; exact below_alloc (Below.refl _ _) _
      have HB5 := Aside0.mk (HB.out.trans (hb5.mono HB.out.size))
      have HO5 := Aside0.mk (show IRow W5 w.heap.size u8 own from Kd.R_below HO.out hb5)
      have HBS := Aside0.mk (show w.heap.size ≤ wr.heap.size from HB.out.size)
      clear hx0 hx1 hx2 hW5 HB HO hb5
      generalize wr.heap.size = pB at hblk HBS ⊢
      have hm0 := (blk_cell hblk 0).trans (show _ = some (Value.int .i64 p.f0) from rfl)
      have hm1 := (blk_cell hblk 1).trans (show _ = some (Value.int .i64 p.f1) from rfl)
      have HBK := Aside0.mk hblk
      clear hblk
      obtain ⟨x1, hxx1⟩ : ∃ x1, wrap64 (x + 1) = x1 := ⟨_, rfl⟩
      have HX1 := Aside0.mk (show x1 = x + 1 by have := HX.out; have := HL2.out; rw [← hxx1]; unfold wrap64; omega)
      have hxw : IntKind.i64.wrap (x + 1) = x1 := (i64_w _).trans hxx1
      obtain ⟨Ao, co, eo⟩ := Kd.R_slice HO5.out
      subst eo
      by_cases hk : p.f0 = 1
      · have e1 : (p.f0 == 1) = true := beq_iff_eq.mpr hk
        have e2 : (p.f0 == 2) = false := beq_eq_false_iff_ne.mpr (by omega)
        have e3 : (p.f0 == 3) = false := beq_eq_false_iff_ne.mpr (by omega)
        by_cases h1 : 1 ≤ p.f1
        · have d1 : decide (1 ≤ p.f1) = true := decide_eq_true h1
          by_cases h2 : p.f1 ≤ (own.length : Int)
          · have d2 : decide (p.f1 ≤ (own.length : Int)) = true := decide_eq_true h2
            have hE := HE.out
            rw [folL, if_pos ⟨hk, h1, h2⟩] at hE
            obtain ⟨j, hj⟩ : ∃ j, wrap64 (p.f1 - 1) = j := ⟨_, rfl⟩
            have hj2 : j = p.f1 - 1 := by have := HQP.out; rw [← hj]; unfold wrap64; omega
            have hjw : IntKind.i64.wrap (p.f1 - 1) = j := (i64_w _).trans hj
            obtain ⟨r, cap, ev, hrb, hrl, cells, hrh⟩ := Kd.N_form (Kd.R_N HO5.out) (by omega)
            injection ev with ev1 ev2 ev3
            subst ev1 ev3
            clear ev2
            have hpd := intDelete_ok w.heap.size r co own j.toNat W5 HO5.out (by have := HX.out; have := HL.out; omega) (by omega)
            rw [show ((j.toNat : Nat) : Int) = j by omega, show j + 1 = p.f1 by omega] at hpd
            rw [show (p.f1 - 1).toNat = j.toNat by rw [hj2]] at hE
            have hlen : (own.eraseIdx j.toNat).length = own.length - 1 := List.length_eraseIdx_of_lt (by omega)
            have HLEN := Aside0.mk hlen
            have HPD := Aside0.mk hpd
            have HE2 := Aside0.mk hE
            have HJ := Aside0.mk (show j.toNat < own.length by omega)
            clear hE HE hpd hj hj2 hrb hrl hrh hlen hk h1 h2
            go_wp2_with fail
            refine HPD.out.mono ?_
            rintro e w7 ⟨rfl, ho7, hb7⟩
            have HO7 := Aside0.mk ho7
            have HB7 := Aside0.mk (HB5.out.trans hb7)
            clear ho7 hb7
            go_wp2_with fail
            go_roundg k1
            case measure => omega
            case rel => exact ⟨x1, i + 1, own.eraseIdx j.toNat, fresh, Af, cf, rfl, rfl, ⟨by have := HX.out; have := HX1.out; have := HLEN.out; have := HJ.out; omega⟩, HE2, HO7, HF, HB7⟩
          · have d2 : decide (p.f1 ≤ (own.length : Int)) = false := decide_eq_false h2
            have hE := HE.out
            rw [folL, if_neg (by omega), if_neg (by omega), if_neg (by omega)] at hE
            have HE2 := Aside0.mk hE
            clear hE HE hk h1 h2
            go_wp2_with fail
            go_ret2
            exact ⟨.slice Ao own.length co, by rw [← HE2.out]; rfl, by rw [← HE2.out]; exact HO5.out, HB5.out⟩
        · have d1 : decide (1 ≤ p.f1) = false := decide_eq_false h1
          have hE := HE.out
          rw [folL, if_neg (by omega), if_neg (by omega), if_neg (by omega)] at hE
          have HE2 := Aside0.mk hE
          clear hE HE hk h1
          go_wp2_with fail
          go_ret2
          exact ⟨.slice Ao own.length co, by rw [← HE2.out]; rfl, by rw [← HE2.out]; exact HO5.out, HB5.out⟩
      · by_cases hk2 : p.f0 = 2
        · have e1 : (p.f0 == 1) = false := beq_eq_false_iff_ne.mpr hk
          have e2 : (p.f0 == 2) = true := beq_iff_eq.mpr hk2
          have e3 : (p.f0 == 3) = false := beq_eq_false_iff_ne.mpr (by omega)
          by_cases h1 : (own.length : Int) ≤ p.f1
          · have d1 : decide ((own.length : Int) ≤ p.f1) = true := decide_eq_true h1
            obtain ⟨n, hn⟩ : ∃ n : Nat, p.f1 - (own.length : Int) = n := ⟨(p.f1 - (own.length : Int)).toNat, by omega⟩
            have hnw : IntKind.i64.wrap (p.f1 - (own.length : Int)) = (n : Int) := by have := HQP.out; rw [i64_w, hn]; unfold wrap64; omega
            have hnw2 : wrap64 (p.f1 - (own.length : Int)) = (n : Int) := (i64_w _).symm.trans hnw
            by_cases h2 : (n : Int) ≤ (fresh.length : Int)
            · have d2 : decide ((n : Int) ≤ (fresh.length : Int)) = true := decide_eq_true h2
              have hE := HE.out
              rw [folL, if_neg (by omega), if_pos ⟨hk2, h1, by omega⟩, hn, Int.toNat_natCast] at hE
              have HE2 := Aside0.mk hE
              have HN := Aside0.mk (show n ≤ fresh.length by omega)
              have d3 := eq_true (show n ≤ cf by have := HF.out; omega)
              have d4 := eq_true (show (n : Int) ≤ (cf : Int) by have := HF.out; omega)
              have d5 := eq_true (show n ≤ fresh.length by omega)
              have HRD := Aside0.mk (show Kd.C (Kd.int .i64) W5 Af n (fresh.take n) by
                have h := Kd.C_take (Kd.C_below HF.out.1 HB5.out) HN.out
                rwa [List.length_take_of_le HN.out] at h)
              have HDR := Aside0.mk (Kd.C_drop HF.out.1 HN.out HF.out.2.1)
              have hdl : (fresh.drop n).length = fresh.length - n := List.length_drop
              have HDL := Aside0.mk hdl
              clear hE HE hn hk hk2 h1 h2 hdl
              cases Af with
              | none =>
                have hz : fresh = [] := by
                  cases fresh with
                  | nil => rfl
                  | cons a b => obtain ⟨ad, e, _⟩ := HF.out.1.2.2 (by simp); cases e
                subst hz
                obtain rfl : n = 0 := by have := HN.out; simpa using this
                go_wp2_with (first | ((with_reducible refine gate_builtin (b := .append) (xs := #[.tmp 70, .tmp 73]) rfl ?_); (try (refine gate_guard (by rfl) ?_; dsimp only)); at_builtin; refine Kd.R_append_rows (Kd.int .i64) (w0 := W5) w.heap.size rfl (.tmp 70) (.tmp 73) 34 3 (.int .i64 0) 8 rfl Tryd.underlying34 info3 rfl (by decide) (by omega) (.slice Ao own.length co) own (([] : List Int).take 0) none 0 cf (fun _ => True) (fun _ => False) rfl rfl ?aO ?aR (fun _ _ h => h) (fun _ h => h.elim) ?aF ?aB ?aS ?aL ?_; (case aR => exact HRD.out); (case aB => exact Below.refl _ _); (case aF => exact (fun _ _ => trivial)); (case aO => exact HO5.out); (case aS => exact HB5.out.size); (case aL => have := HX.out; have := HL.out; have := HN.out; omega); intro v74 w7 ho hb hg hat; have HO7 := Aside0.mk ho; have HB7 := Aside0.mk (HB5.out.trans hb); clear ho hb hg hat))
                go_roundg k1
                case measure => omega
                case rel => exact ⟨x1, i + 1, own ++ [].take 0, [], none, _, rfl, rfl, ⟨by have := HX.out; have := HX1.out; simp at this ⊢; omega⟩, HE2, HO7, ⟨by have := HF.out; exact ⟨this.1, this.2.1, this.2.2⟩⟩, HB7⟩
              | some af =>
                by_cases hcap : cf = n
                · subst hcap
                  go_wp2_with (first | ((with_reducible refine gate_builtin (b := .append) (xs := #[.tmp 70, .tmp 73]) rfl ?_); (try (refine gate_guard (by rfl) ?_; dsimp only)); at_builtin; refine Kd.R_append_rows (Kd.int .i64) (w0 := W5) w.heap.size rfl (.tmp 70) (.tmp 73) 34 3 (.int .i64 0) 8 rfl Tryd.underlying34 info3 rfl (by decide) (by omega) (.slice Ao own.length co) own (fresh.take cf) (some af) cf cf (fun _ => True) (fun _ => False) rfl rfl ?aO ?aR (fun _ _ h => h) (fun _ h => h.elim) ?aF ?aB ?aS ?aL ?_; (case aR => exact HRD.out); (case aB => exact Below.refl _ _); (case aF => exact (fun _ _ => trivial)); (case aO => exact HO5.out); (case aS => exact HB5.out.size); (case aL => have := HX.out; have := HL.out; have := HN.out; omega); intro v74 w7 ho hb hg hat; have HO7 := Aside0.mk ho; have HB7 := Aside0.mk (HB5.out.trans hb); clear ho hb hg hat))
                  go_roundg k1
                  case measure => omega
                  case rel =>
                    have hdr := HDR.out
                    replace hdr : Kd.C (Kd.int .i64) w (some af) (fresh.drop cf).length (fresh.drop cf) := by simpa only [if_true] using hdr
                    exact ⟨x1, i + 1, own ++ fresh.take cf, fresh.drop cf, some af, 0, rfl, by rw [HDL.out], ⟨by have := HX.out; have := HX1.out; have := HN.out; rw [List.length_append, List.length_take_of_le HN.out, HDL.out]; omega⟩, HE2, HO7, ⟨hdr, by have := HDL.out; have := HF.out; omega, by omega⟩, HB7⟩
                · have hcapb := eq_false hcap
                  go_wp2_with (first | ((with_reducible refine gate_builtin (b := .append) (xs := #[.tmp 70, .tmp 73]) rfl ?_); (try (refine gate_guard (by rfl) ?_; dsimp only)); at_builtin; refine Kd.R_append_rows (Kd.int .i64) (w0 := W5) w.heap.size rfl (.tmp 70) (.tmp 73) 34 3 (.int .i64 0) 8 rfl Tryd.underlying34 info3 rfl (by decide) (by omega) (.slice Ao own.length co) own (fresh.take n) (some af) n cf (fun _ => True) (fun _ => False) rfl rfl ?aO ?aR (fun _ _ h => h) (fun _ h => h.elim) ?aF ?aB ?aS ?aL ?_; (case aR => exact HRD.out); (case aB => exact Below.refl _ _); (case aF => exact (fun _ _ => trivial)); (case aO => exact HO5.out); (case aS => exact HB5.out.size); (case aL => have := HX.out; have := HL.out; have := HN.out; omega); intro v74 w7 ho hb hg hat; have HO7 := Aside0.mk ho; have HB7 := Aside0.mk (HB5.out.trans hb); clear ho hb hg hat))
                  go_roundg k1
                  case measure => omega
                  case rel =>
                    have hdr := HDR.out
                    rw [if_neg hcap, Option.map_some, show n * (Kd.int .i64).sz = n from Nat.mul_one n] at hdr
                    exact ⟨x1, i + 1, own ++ fresh.take n, fresh.drop n, some (af.add n), cf - n, rfl, by rw [HDL.out], ⟨by have := HX.out; have := HX1.out; have := HN.out; rw [List.length_append, List.length_take_of_le HN.out, HDL.out]; omega⟩, HE2, HO7, ⟨hdr, by have := HDL.out; have := HF.out; omega, by have := HF.out; omega⟩, HB7⟩
            · have d2 : decide ((n : Int) ≤ (fresh.length : Int)) = false := decide_eq_false h2
              have d5 := eq_false (show ¬ n ≤ fresh.length by omega)
              have hE := HE.out
              rw [folL, if_neg (by omega), if_neg (by omega), if_neg (by omega)] at hE
              have HE2 := Aside0.mk hE
              clear hE HE hk hk2 h1 h2 hn
              go_wp2_with fail
              go_ret2
              exact ⟨.slice Ao own.length co, by rw [← HE2.out]; rfl, by rw [← HE2.out]; exact HO5.out, HB5.out⟩
          · have d1 : decide ((own.length : Int) ≤ p.f1) = false := decide_eq_false h1
            have hE := HE.out
            rw [folL, if_neg (by omega), if_neg (by omega), if_neg (by omega)] at hE
            have HE2 := Aside0.mk hE
            clear hE HE hk hk2 h1
            go_wp2_with fail
            go_ret2
            exact ⟨.slice Ao own.length co, by rw [← HE2.out]; rfl, by rw [← HE2.out]; exact HO5.out, HB5.out⟩
        · by_cases hk3 : p.f0 = 3
          · have e1 : (p.f0 == 1) = false := beq_eq_false_iff_ne.mpr hk
            have e2 : (p.f0 == 2) = false := beq_eq_false_iff_ne.mpr hk2
            have e3 : (p.f0 == 3) = true := beq_iff_eq.mpr hk3
            by_cases h1 : 1 ≤ p.f1
            · have d1 : decide (1 ≤ p.f1) = true := decide_eq_true h1
              by_cases h2 : p.f1 ≤ (own.length : Int)
              · have d2 : decide (p.f1 ≤ (own.length : Int)) = true := decide_eq_true h2
                have hE := HE.out
                rw [folL, if_neg (by omega), if_neg (by omega), if_pos ⟨hk3, h1, h2⟩] at hE
                have HE2 := Aside0.mk hE
                clear hE HE hk hk2 hk3 h1 h2
                go_wp2_with fail
                go_roundg k1
                case measure => omega
                case rel => exact ⟨x1, i + 1, own, fresh, Af, cf, rfl, rfl, ⟨by have := HX.out; have := HX1.out; omega⟩, HE2, HO5, HF, HB5⟩
              · have d2 : decide (p.f1 ≤ (own.length : Int)) = false := decide_eq_false h2
                have hE := HE.out
                rw [folL, if_neg (by omega), if_neg (by omega), if_neg (by omega)] at hE
                have HE2 := Aside0.mk hE
                clear hE HE hk hk2 hk3 h1 h2
                go_wp2_with fail
                go_ret2
                exact ⟨.slice Ao own.length co, by rw [← HE2.out]; rfl, by rw [← HE2.out]; exact HO5.out, HB5.out⟩
            · have d1 : decide (1 ≤ p.f1) = false := decide_eq_false h1
              have hE := HE.out
              rw [folL, if_neg (by omega), if_neg (by omega), if_neg (by omega)] at hE
              have HE2 := Aside0.mk hE
              clear hE HE hk hk2 hk3 h1
              go_wp2_with fail
              go_ret2
              exact ⟨.slice Ao own.length co, by rw [← HE2.out]; rfl, by rw [← HE2.out]; exact HO5.out, HB5.out⟩
          · have e1 : (p.f0 == 1) = false := beq_eq_false_iff_ne.mpr hk
            have e2 : (p.f0 == 2) = false := beq_eq_false_iff_ne.mpr hk2
            have e3 : (p.f0 == 3) = false := beq_eq_false_iff_ne.mpr hk3
            have hE := HE.out
            rw [folL, if_neg (by omega), if_neg (by omega), if_neg (by omega)] at hE
            have HE2 := Aside0.mk hE
            clear hE HE hk hk2 hk3
            go_wp2_with fail
            go_ret2
            exact ⟨.slice Ao own.length co, by rw [← HE2.out]; rfl, by rw [← HE2.out]; exact HO5.out, HB5.out⟩
end Go.Proofs.YtmpngedfnheilaaDoor.PP
