/- YtakfdmhoooeejaaDoorMyWireEnds, as far as WireEnds needs it (prune.py). -/
import Derived.Test.YtakfdmhoooeejaaDoorWireEndsMyWireP
import Derived.Test.YtakfdmhoooeejaaDoorWireEndsMyWireJ
import Derived.Test.YtakfdmhoooeejaaDoorWireEndsMyWirePieces
import Derived.Test.YtakfdmhoooeejaaDoorWireEndsKindsPP
namespace Go.Proofs.YtakfdmhoooeejaaDoor.PP
open Go.RowKit Go.Proofs.YtakfdmhoooeejaaDoorW.PrintWords Go.Proofs.YtakfdmhoooeejaaDoorW.PrintLast Go.Proofs.YtakfdmhoooeejaaDoorW.PrintMore
open Go.Proofs.YtakfdmhoooeejaaDoor.My
set_option linter.unusedVariables false
set_option linter.unusedSimpArgs false
/-- The first i cells of a block of n hold x. -/
def Fill (W : World) (b n i : Nat) : Prop := ∃ cs : Array Value, W.heap[b]? = some (.cells cs 5 (0, 0)) ∧ cs.size = n ∧ ∀ j, j < i → cs[j]? = some (.int .u8 120)
theorem Fill.step {W : World} {b n i : Nat} (h : Fill W b n i) (hi : i < n) : Fill (W.setCell ⟨b, i, none⟩ (.int .u8 120)) b n (i + 1) := by
  obtain ⟨cs, h1, h2, h3⟩ := h
  refine ⟨_, blk_set h1 i _, by simp [h2], fun j hj => ?_⟩
  by_cases he : j = i
  · subst he
    rw [Array.getElem?_setIfInBounds_self_of_lt (by omega)]
  · rw [Array.getElem?_setIfInBounds_ne (Ne.symm he)]
    exact h3 j (by omega)
theorem Fill.keep {W W' : World} {b n i : Nat} (h : Fill W b n i) (hb : W'.heap[b]? = W.heap[b]?) : Fill W' b n i := by
  obtain ⟨cs, h1, h2, h3⟩ := h
  exact ⟨cs, hb.trans h1, h2, h3⟩
theorem Fill.lt {W : World} {b n i : Nat} (h : Fill W b n i) : b < W.heap.size := by
  obtain ⟨cs, h1, _⟩ := h
  exact (Array.getElem?_eq_some_iff.1 h1).1
theorem Fill.F {W : World} {b n : Nat} (h : Fill W b n n) (hn : n ≤ 1000000000) : Kd.F (Kd.int .u8) W (fun k => k = b) (some ⟨b, 0, none⟩) n (nb (List.replicate n 120)) := by
  obtain ⟨cs, h1, h2, h3⟩ := h
  have := F_cells (W := W) (b := b) (l := List.replicate n 120) (ok := fun k => k = b) (fun j hj => by
    rw [List.length_replicate] at hj
    rw [cell_of_row W b j _ _ (0, 0) h1, h3 j hj]
    simp [List.getD_eq_getElem?_getD, hj]) (by rw [List.length_replicate]; exact hn) rfl
  rw [List.length_replicate] at this
  exact this
theorem make_x (w : World) : ∃ M : Array Value, M.size = 50000 ∧ (Instr.makeSlice 31 (.int .i64 50000) (.int .i64 50000)).run Tryd.prog w = .ok (.slice (some ⟨w.heap.size, 0, none⟩) 50000 50000) (w.alloc (.cells M 5)) := by
  obtain ⟨i0, hi, hzz⟩ := Option.map_eq_some_iff.1 inf8
  simp only [Prod.mk.injEq] at hzz
  obtain ⟨hz0, hz1, hz2⟩ := hzz
  have h := run_make (P := Tryd.prog) w 31 5 i0 (.int .u8 0) Tryd.underlying31 hi hz0 .i64 .i64 50000 50000 (by decide) (by decide) (by rw [hz2]; decide) (by decide)
  refine ⟨_, ?_, h⟩
  rw [size_madeCells, hz1]
  rfl
set_option maxHeartbeats 8000000 in
set_option maxRecDepth 100000 in
theorem haversacklaw13_WireEnds.holds (A0 : Option Addr) (c0 : Nat) (l0 : List S47) (a1 : ByteArray) (w : World) (hr0 : Kd.C k47 w A0 l0.length l0) (hc0 : l0.length ≤ c0) (m0 : l0.length ≤ maxLen) (q0 : ∀ z ∈ l0, Q47 z) (w1 : a1.size ≤ 140737488351232) :
    Calls Tryd.prog 4 #[.slice A0 l0.length c0, .string a1] w fun e w' => e = .returned (.bool true) ∧ Below w.heap.size w w' := by
  obtain ⟨⟨tx, ok⟩, hev, hok⟩ := text_ev l0
  obtain ⟨k, hk⟩ := hev.ex
  have HK := Aside0.mk hk
  have HOK := Aside0.mk hok
  have HR0 := Aside0.mk hr0
  have HM := Aside0.mk hc0
  obtain ⟨cl, hce, hcp⟩ := clean_ev [a1] [] (fun t ht => by rw [List.mem_singleton.1 ht]; omega) (by simp)
  obtain ⟨kc, hkc⟩ := hce.ex
  have HKC := Aside0.mk hkc
  have HCP := Aside0.mk hcp
  clear hce hkc hcp hev hok hk hr0 hc0 m0 q0 w1
  go_enter Tryd.func4, Tryd.ntmps4
  go_wp2_with fail
  refine (haversacklaw13_text.calls k A0 c0 l0 tx ok w HR0.out HM.out HK.out).mono ?_
  rintro e w1 ⟨rfl, hb1⟩
  have HB1 := Aside0.mk hb1
  clear hb1 HR0 HK
  cases ok with
  | false =>
    go_wp2_with fail
    refine (alive_ok _).mono ?_
    rintro e w3 ⟨rfl, hb⟩
    have HB := Aside0.mk (HB1.out.trans (hb.mono HB1.out.size))
    clear hb
    go_wp2_with fail
    go_ret
    exact ⟨rfl, HB.out⟩
  | true =>
    have HT := Aside0.mk (HOK.out rfl)
    go_wp2_with fail
    have hbx : Below w1.heap.size w1 (w1.alloc (.cells #[.string a1] 9)) := below_alloc (Below.refl _ _) _
    refine (haversacklaw13_clean.calls kc _ _ [a1] none 0 [] cl _ (C_one w1 a1) (Nat.le_refl _) (Kd.R_reads' (Kd.R_nil Kd.string 9 _ 0 (fun _ => True))).2.2 (Nat.le_refl _) HKC.out).mono ?_
    rintro e w2 ⟨rfl, hb2⟩
    have HB2 := Aside0.mk (HB1.out.trans ((hbx.trans (hb2.mono hbx.size)).mono HB1.out.size))
    clear hbx hb2
    cases cl with
    | false =>
      go_wp2_with fail
      refine (alive_ok _).mono ?_
      rintro e w3 ⟨rfl, hb⟩
      have HB := Aside0.mk (HB2.out.trans (hb.mono HB2.out.size))
      clear hb
      go_wp2_with fail
      go_ret
      exact ⟨rfl, HB.out⟩
    | true =>
      have HCL := Aside0.mk (HCP.out rfl)
      clear HCP HKC
      go_wp2_with fail
      refine (new_ok _).mono ?_
      rintro e w3 ⟨rfl, hw3, hb3⟩
      obtain ⟨fb, hfb⟩ : ∃ fb, fb = w2.heap.size := ⟨_, rfl⟩
      rw [← hfb] at hw3 ⊢
      have HF3 := Aside0.mk hw3
      have HB3 := Aside0.mk (HB2.out.trans (hb3.mono HB2.out.size))
      have HN := Aside0.mk (show w.heap.size ≤ fb by rw [hfb]; exact HB2.out.size)
      clear hw3 hb3 hfb HB1 HB2
      obtain ⟨L, rfl⟩ : ∃ L, tx = str L := ⟨tx.data.toList, rfl⟩
      have hcv := bytes_run w3 (str L)
      go_wp2_with fail
      have hba := below_bytesW w3 5 (str L)
      have hsz := Lib.bytesWorld_size w3 5 (str L)
      have hL : L.length ≤ 180000 := HT.out
      refine (take_ok fb fb _ (fun k => k = w3.heap.size) _ vnil fs0 _ _ L (HF3.out.below hba) Inv.zero (by have := HF3.out.lt; omega) rfl (by omega) (F_bytes w3 L (by omega)) (fun k hk hf => by have := HF3.out.fb_lt k hf; omega)).mono ?_
      rintro e w4 ⟨va, V4, rfl, _, hw, hx⟩
      have HF4 := Aside0.mk hw
      have HI4 := Aside0.mk (Inv.take L Inv.zero)
      have HB4 := Aside0.mk (show Below w.heap.size w w4 from (HB3.out.trans (hba.mono HB3.out.size)).trans (hx.bel.mono HN.out))
      clear hw hx hba hsz hcv HF3 HB3
      generalize (takeS fs0 L).1 = s4 at HF4 HI4
      clear hL
      have HXB := Aside0.mk (fun (hlt : w4.heap.size < w4.heap.size) => Nat.lt_irrefl _ hlt)
      obtain ⟨M, hM, hmk⟩ := make_x w4
      go_upto_region 7 with fail
      obtain ⟨xb, hxb⟩ : ∃ b, b = w4.heap.size := ⟨_, rfl⟩
      obtain ⟨ad, had⟩ : ∃ ad, ad = (⟨xb, 0, none⟩ : Addr) := ⟨_, rfl⟩
      have hb5 : Below w4.heap.size w4 (w4.alloc (.cells M 5)) := below_alloc (Below.refl _ _) _
      have hW5 : Fill (w4.alloc (.cells M 5)) xb 50000 0 := ⟨M, by rw [hxb]; exact blk_new _ _, hM, fun j hj => absurd hj (Nat.not_lt_zero j)⟩
      have HNX := Aside0.mk (show ¬ FB fb V4 xb from fun hf => by have := HF4.out.fb_lt xb hf; omega)
      rw [← hxb, ← had]
      generalize w4.alloc (.cells M 5) = w5 at hb5 hW5 ⊢
      have HF5 := Aside0.mk (HF4.out.below hb5)
      have HB5 := Aside0.mk (HB4.out.trans (hb5.mono HB4.out.size))
      have HW5 := Aside0.mk hW5
      have HAD := Aside0.mk had
      have HNB := Aside0.mk (show w.heap.size ≤ xb by rw [hxb]; exact HB4.out.size)
      clear hM hmk hb5 hW5 hxb had HF4 HB4 HXB
      obtain ⟨nn, hnn⟩ : ∃ n : Nat, n = 50000 := ⟨_, rfl⟩
      have HNN := Aside0.mk hnn
      rw [← hnn] at HW5
      clear hnn
      go_upto_region 8 with fail
      go_loopg [34] nn (fun kq v34 wr => ∃ (x : Int) (i : Nat), v34 = .int .i64 x ∧ Aside0 (x = i ∧ i + kq = nn) ∧ Aside0 (Fill wr xb nn i) ∧ Aside0 (FW fb wr fb V4 s4) ∧ Aside0 (Below w.heap.size w wr))
      case atStart => exact ⟨0, 0, rfl, ⟨rfl, by omega⟩, HW5, HF5, HB5⟩
      case round =>
        obtain ⟨x, i, rfl, HX, HW, HF, HB⟩ := hrel
        clear HF5 HB5 HW5
        cases gk with
        | succ kk1 =>
          have z1 : x < (50000 : Int) := by have := HX.out; have := HNN.out; omega
          have z0 : 0 ≤ x := by have := HX.out; omega
          have c1b : decide (x < (50000 : Int)) = true := decide_eq_true z1
          have HI := Aside0.mk (show i < nn by have := HX.out; omega)
          have HAX := Aside0.mk (show ad.add x.toNat = ⟨xb, i, none⟩ by rw [HAD.out, add0, HX.out.1, Int.toNat_natCast])
          obtain ⟨u, hu, hfz⟩ : ∃ u, wr.cell? (ad.add x.toNat) = some u ∧ wr.frozen? (ad.add x.toNat) = false := by
            obtain ⟨cs, h1, h2, h3⟩ := HW.out
            rw [HAX.out]
            have hi := HI.out
            exact ⟨cs[i]'(by omega), by rw [cell_of_row wr xb i _ _ (0, 0) h1]; exact Array.getElem?_eq_getElem (by omega), blk_frozen h1 i⟩
          have z0b := eq_true z0
          have z1b := eq_true z1
          clear z0 z1
          go_wp2_with fail
          have HW' := Aside0.mk (show Fill (wr.setCell (ad.add x.toNat) (.int .u8 120)) xb nn (i + 1) by rw [HAX.out]; exact HW.out.step HI.out)
          have HF' := Aside0.mk (show FW fb (wr.setCell (ad.add x.toNat) (.int .u8 120)) fb V4 s4 by
            rw [HAX.out]
            exact HF.out.keep (fun k hk => set_ne (fun e => HNX.out (e ▸ hk))))
          have HB' := Aside0.mk (show Below w.heap.size w (wr.setCell (ad.add x.toNat) (.int .u8 120)) by
            rw [HAX.out]
            exact below_setG HB.out HNB.out)
          go_roundg kk1
          case measure => omega
          case rel => exact ⟨wrap64 (x + 1), i + 1, rfl, ⟨by have := HX.out; have := HNN.out; unfold wrap64; omega⟩, HW', HF', HB'⟩
        | zero =>
          have c1b : decide (x < (50000 : Int)) = false := decide_eq_false (by have := HX.out; have := HNN.out; omega)
          have HW0 := Aside0.mk (show Fill wr xb nn nn by have h := HW.out; rwa [show i = nn by have := HX.out; omega] at h)
          clear HW
          obtain ⟨bl, hbl⟩ : ∃ X : List UInt8, X = List.replicate nn 120 := ⟨_, rfl⟩
          have HBL := Aside0.mk hbl
          have HBN := Aside0.mk (show bl.length = 50000 by rw [hbl, List.length_replicate]; exact HNN.out)
          clear hbl
          have HFL := Aside0.mk (fun (W : World) (h : Fill W xb nn nn) => (by
            have h2 := h.F (by have := HNN.out; omega)
            rw [← HBL.out] at h2
            rw [HNN.out] at h2
            rw [HAD.out]
            exact h2 : Kd.F (Kd.int .u8) W (fun k => k = xb) (some ad) 50000 (nb bl)))
          go_upto_block 2 with fail
          go_cut [] from 41 to 51 (fun wc => ∃ (V : FV) (s : FS), Aside0 (idleS s = true ∧ Inv s) ∧ Aside0 (FW fb wc fb V s) ∧ Aside0 (Below w.heap.size w wc))
          case first =>
            go_wp2_with fail
            go_loopg [41] 21 (fun kq v41 wr => ∃ (x : Int) (i : Nat) (V : FV) (s : FS), v41 = .int .i64 x ∧ Aside0 (x = i ∧ i + kq = 21) ∧ Aside0 (idleS s = true ∨ rounds s ≤ kq) ∧ Aside0 (Inv s) ∧ Aside0 (FW fb wr fb V s) ∧ Aside0 (Fill wr xb nn nn ∧ ¬ FB fb V xb) ∧ Aside0 (Below w.heap.size w wr))
            case atStart => exact ⟨0, 0, V4, s4, rfl, ⟨rfl, by omega⟩, ⟨.inr (by unfold rounds; have := HI4.out.left; split <;> omega)⟩, HI4, HF, ⟨HW0.out, HNX.out⟩, HB⟩
            case round =>
              clear HF HB HW0
              obtain ⟨y, j, V, s, rfl, HY, HR, HI, HF, HW, HB⟩ := hrel
              cases gk with
              | zero =>
                have d1b : decide (y < (21 : Int)) = false := decide_eq_false (by have := HY.out; omega)
                have HID := Aside0.mk (show idleS s = true from HR.out.elim id (fun h => by have := rounds_pos s; omega))
                go_wp2_with fail
                go_meet
                case rel => exact ⟨V, s, ⟨HID.out, HI.out⟩, HF, HB⟩
              | succ kk2 =>
                have d1b : decide (y < (21 : Int)) = true := decide_eq_true (by have := HY.out; omega)
                go_wp2_with fail
                refine (idle_ok fb fb _ V s HF.out).mono ?_
                rintro e wz ⟨rfl, rfl⟩
                cases hid : idleS s with
                | true =>
                  have HID := Aside0.mk hid
                  clear hid
                  go_wp2_with fail
                  go_meet
                  case rel => exact ⟨V, s, ⟨HID.out, HI.out⟩, HF, HB⟩
                | false =>
                  have HRR := Aside0.mk (show rounds s ≤ kk2 + 1 from HR.out.elim (fun h => by rw [hid] at h; cases h) id)
                  clear hid
                  go_wp2_with fail
                  have hsz : fb ≤ wz.heap.size := Nat.le_of_lt HF.out.lt
                  refine (take_ok fb fb 50000 (fun k => k = xb) wz V s (some ad) 50000 bl HF.out HI.out hsz HBN.out.symm (by have := HBN.out; omega) (HFL.out wz HW.out.1) (fun k hk => by rw [hk]; exact HW.out.2)).mono ?_
                  rintro e w6 ⟨vo, V6, rfl, _, hw, hx⟩
                  have HF6 := Aside0.mk hw
                  have HI6 := Aside0.mk (Inv.take bl HI.out)
                  have HB6 := Aside0.mk (HB.out.trans (hx.bel.mono HN.out))
                  have HW6 := Aside0.mk (show Fill w6 xb nn nn ∧ ¬ FB fb V6 xb from by
                    have hlt := HW.out.1.lt
                    refine ⟨HW.out.1.keep (hx.kept.2 xb hlt HW.out.2), fun hf => ?_⟩
                    rcases hx.own xb hf with h | h
                    · exact HW.out.2 h
                    · omega)
                  have HRL := Aside0.mk (round_law s HI.out nn HNN.out)
                  rw [← HBL.out] at HRL
                  clear hw hx hsz HF HB HW HI
                  generalize (takeS s bl).1 = s6 at HF6 HI6 HRL
                  go_wp2_with fail
                  have h10 := F_mark w6 [10] #[.int .u8 10] (0, 0) (fun k => k = w6.heap.size) (by kernel_rfl) (by decide) rfl
                  have hba : Below w6.heap.size w6 (w6.alloc (.cells #[.int .u8 10] 5)) := below_alloc (Below.refl _ _) _
                  refine (take_ok fb fb 1 (fun k => k = w6.heap.size) _ V6 s6 _ 1 [10] (HF6.out.below hba) HI6.out (by have := HF6.out.lt; have := hba.size; omega) rfl (by decide) h10 (fun k hk hf => by have := HF6.out.fb_lt k hf; omega)).mono ?_
                  rintro e w7 ⟨vp, V7, rfl, _, hw, hx⟩
                  have HF7 := Aside0.mk hw
                  have HI7 := Aside0.mk (Inv.take [10] HI6.out)
                  have HB7 := Aside0.mk ((HB6.out.trans (hba.mono HB6.out.size)).trans (hx.bel.mono HN.out))
                  have HW7 := Aside0.mk (show Fill w7 xb nn nn ∧ ¬ FB fb V7 xb from by
                    have hlt := HW6.out.1.lt
                    have hle := hba.size
                    refine ⟨(HW6.out.1.keep (hba.block xb hlt)).keep (hx.kept.2 xb (by omega) HW6.out.2), fun hf => ?_⟩
                    rcases hx.own xb hf with h | h
                    · exact HW6.out.2 h
                    · omega)
                  clear hw hx h10 hba HF6 HI6 HB6 HW6
                  generalize (takeS s6 [10]).1 = s7 at HF7 HI7 HRL
                  go_wp2_with fail
                  go_roundg kk2
                  case measure => omega
                  case rel => exact ⟨wrap64 (y + 1), j + 1, V7, s7, rfl, ⟨by have := HY.out; unfold wrap64; omega⟩, ⟨HRL.out.imp id (fun h => by have := HRR.out; omega)⟩, HI7, HF7, HW7, HB7⟩
          case rest =>
            clear HF HB HW0 HFL HX
            obtain ⟨V, s, HS, HF, HB⟩ := hcut
            have hl8 : a1.size ≤ 4000 := by have := HCL.out.2.2.2; simp [szs] at this; omega
            have HL8 := Aside0.mk hl8
            clear hl8 c1b
            go_wp2_with fail
            have h10 := F_mark wc [10] #[.int .u8 10] (0, 0) (fun k => k = wc.heap.size) (by kernel_rfl) (by decide) rfl
            have hba : Below wc.heap.size wc (wc.alloc (.cells #[.int .u8 10] 5)) := below_alloc (Below.refl _ _) _
            refine (take_ok fb fb 1 (fun k => k = wc.heap.size) _ V s _ 1 [10] (HF.out.below hba) HS.out.2 (by have := HF.out.lt; have := hba.size; omega) rfl (by decide) h10 (fun k hk hf => by have := HF.out.fb_lt k hf; omega)).mono ?_
            rintro e w7 ⟨vp, V7, rfl, _, hw, hx⟩
            rw [idle_end s HS.out.2 HS.out.1] at hw
            have HF7 := Aside0.mk hw
            have HB7 := Aside0.mk ((HB.out.trans (hba.mono HB.out.size)).trans (hx.bel.mono HN.out))
            clear hw hx h10 hba HF HS HB
            have hcc : a1 ++ (⟨#[13, 10]⟩ : ByteArray) = str (rawL [a1] []) := lb_ext (by rw [lb_app]; rfl)
            have HTK := Aside0.mk (show takeS fs0 (rawL [a1] []) = (fs0, [evt 1 [a1] []]) from take_raw [a1] [] [] [] 0 rfl HCL.out.2.2.1 (by simp) (by simp) (by omega) (by have := HL8.out; simp [szs]; omega))
            have HRL := Aside0.mk (show (rawL [a1] []).length ≤ 4002 by have := HL8.out; show (lbytes a1 ++ [13, 10]).length ≤ 4002; rw [List.length_append, lbytes_len]; simp; omega)
            generalize rawL [a1] [] = RL at hcc HTK HRL
            have v0 := eq_false (show ¬ 9223372036854775807 < a1.size + 2 by have := HL8.out; omega)
            have hcv := bytes_run w7 (str RL)
            go_wp2_with fail
            clear hcv v0 hcc
            have hba := below_bytesW w7 5 (str RL)
            have hsz := Lib.bytesWorld_size w7 5 (str RL)
            refine (take_ok fb fb _ (fun k => k = w7.heap.size) _ V7 fs0 _ _ RL (HF7.out.below hba) Inv.zero (by have := HF7.out.lt; omega) rfl (by have := HRL.out; omega) (F_bytes w7 RL (by have := HRL.out; omega)) (fun k hk hf => by have := HF7.out.fb_lt k hf; omega)).mono ?_
            rintro e w8 ⟨vo, V8, rfl, he, hw, hx⟩
            rw [HTK.out] at he hw
            dsimp only at he hw
            have HE8 := Aside0.mk he
            have HF8 := Aside0.mk hw
            have HB8 := Aside0.mk ((HB7.out.trans (hba.mono HB7.out.size)).trans (hx.bel.mono HN.out))
            clear he hw hx hba hsz HF7 HB7
            obtain ⟨Ao, co, eo⟩ := Kd.N_slice HE8.out
            subst eo
            have hrd := Kd.N_reads' HE8.out
            obtain ⟨ae, A1, c1, A2, c2, rfl, hx0, hx1, hx2, hl1, hr1, hl2, hr2⟩ := at_T39 hrd.2.2 0 (by decide) (by simp)
            simp only [show rd_T39 [evt 1 [a1] []] 0 = evt 1 [a1] [] from rfl, evt, Int.toNat_zero, Nat.zero_mul] at hx0 hx1 hx2 hl1 hr1 hl2 hr2
            rw [show ae.add 0 = ae from by simp [Addr.add]] at hx0 hx1 hx2
            replace hx1 : w8.cell? ⟨ae.block, ae.off + 1, none⟩ = some (.slice A1 1 c1) := hx1
            replace hx2 : w8.cell? ⟨ae.block, ae.off + 2, none⟩ = some (.slice A2 0 c2) := hx2
            replace hr1 : Kd.C Kd.string w8 A1 1 [a1] := hr1
            replace hl1 : 1 ≤ c1 := hl1
            have HR1 := Aside0.mk (And.intro hr1 hl1)
            clear hrd hl1 hr1 hl2 hr2
            go_wp2_with fail
            have hba : Below w8.heap.size w8 (w8.alloc (.cells #[.string a1] 9)) := below_alloc (Below.refl _ _) _
            obtain ⟨kt, hkt⟩ := (texts_ev [a1] (by simp)).ex
            refine (haversackref13_Texts.calls kt A1 c1 [a1] _ 1 [a1] true _ (Kd.C_below HR1.out.1 hba) HR1.out.2 (C_one w8 a1) (Nat.le_refl _) hkt).mono ?_
            rintro e w9 ⟨rfl, n9, hn9⟩
            have hb89 : Below w8.heap.size w8 w9 := by rw [hn9]; exact pw_below_drewN hba n9
            have HF9 := Aside0.mk (HF8.out.below hb89)
            have HB9 := Aside0.mk (HB8.out.trans (hb89.mono HB8.out.size))
            clear hba hkt hn9 hb89 hx0 hx1 hx2
            go_wp2_with fail
            refine (idle_ok fb fb _ V8 fs0 HF9.out).mono ?_
            rintro e wz ⟨rfl, rfl⟩
            rw [show idleS fs0 = true from rfl]
            go_wp2_with fail
            refine (alive_ok _).mono ?_
            rintro e w10 ⟨rfl, hb⟩
            have HB10 := Aside0.mk (HB9.out.trans (hb.mono HB9.out.size))
            clear hb
            go_wp2_with fail
            go_ret
            exact ⟨rfl, HB10.out⟩
end Go.Proofs.YtakfdmhoooeejaaDoor.PP
