/- YtmpngedfnheilaaDoorMyViewG, as far as ViewWhole needs it (prune.py). -/
import Derived.Test.YtmpngedfnheilaaDoorViewWholeMyViewF
namespace Go.Proofs.YtmpngedfnheilaaDoor.PP
open Go.RowKit Go.Proofs.YtmpngedfnheilaaDoorW.PrintWords Go.Proofs.YtmpngedfnheilaaDoorW.PrintLast Go.Proofs.YtmpngedfnheilaaDoorW.PrintMore
open Go.Proofs.YtmpngedfnheilaaDoor.My
set_option linter.unusedVariables false
set_option linter.unusedSimpArgs false
theorem risL_mem {m : Ml} : ∀ (l : List Ml) (t : Int), m ∈ risL l t → m ∈ l
  | [], _, h => h
  | a :: l, t, h => by
    unfold risL at h
    split at h
    · rcases List.mem_cons.1 h with h | h
      · rw [h]; exact List.mem_cons_self ..
      · exact List.mem_cons_of_mem _ (risL_mem l _ h)
    · exact List.mem_cons_of_mem _ (risL_mem l _ h)
theorem risL_len : ∀ (l : List Ml) (t : Int), (risL l t).length ≤ l.length
  | [], _ => Nat.le_refl _
  | a :: l, t => by
    unfold risL
    split
    · have := risL_len l a.f0; simp; omega
    · have := risL_len l t; simp; omega
theorem rd_mem (l : List Ml) (i : Nat) (h : i < l.length) : rd_T43 l i ∈ l := by
  unfold rd_T43
  simp [List.getD_eq_getElem?_getD, List.getElem?_eq_getElem h]
theorem VW.lower {N0 N1 : Nat} {w : World} {g : Nat} {v : Value} {l : List Pl} {top : Int} (h : VW N1 w g v l top) (hn : N0 ≤ N1) : VW N0 w g v l top := ⟨h.blk, Nat.le_trans hn h.ge, Kd.N_lower h.row hn⟩
set_option maxHeartbeats 4000000 in
set_option maxRecDepth 100000 in
theorem viewNew_ok (FL : List ByteArray → List ByteArray) (kf : Nat) (P : Nat → Prop) (A : Option Addr) (c : Nat) (l : List Ml) (w : World) (hF : Kd.F k43 w P A l.length l)
    (hK : ∀ m ∈ l, search_Flags.f kf m.f1 = some (FL m.f1)) (hl : l.length ≤ 1000000) :
    Calls Tryd.prog 12 #[.slice A l.length c] w fun e w' => ∃ (g : Nat) (v : Value), e = .returned (.pointer (some ⟨g, 0, none⟩)) ∧ VW w.heap.size w' g v (growL FL (risL l 0) [] 0).1 (growL FL (risL l 0) [] 0).2 ∧ Below w.heap.size w w' := by
  have HF := Aside0.mk hF
  have HK := Aside0.mk hK
  have HL := Aside0.mk hl
  clear hF hK hl
  go_enter Tryd.func12, Tryd.ntmps12
  go_wp2_with fail
  obtain ⟨W1, hW1⟩ : ∃ W1, W1 = w.alloc (.cells #[.slice none 0 0, .int .i64 0] 70) := ⟨_, rfl⟩
  rw [← hW1]
  have hblk : W1.heap[w.heap.size]? = some (.cells #[.slice none 0 0, .int .i64 0] 70 (0, 0)) := by rw [hW1]; exact blk_new _ _
  have hb1 : Below w.heap.size w W1 := by rw [hW1]; exact below_alloc (Below.refl _ _) _
  have hf1 : Kd.F k43 W1 (fun k => P k ∧ k < w.heap.size) A l.length l := by rw [hW1]; exact Kd.F_alloc (Kd.F_bound HF.out) _
  have hs1 : W1.heap.size = w.heap.size + 1 := by rw [hW1]; exact sz_alloc
  have HB1 := Aside0.mk hb1
  have HS1 := Aside0.mk hs1
  have HBK := Aside0.mk hblk
  refine (rising_ok (fun k => P k ∧ k < w.heap.size) A c l W1 hf1 (by have := HL.out; omega)).mono ?_
  rintro e w2 ⟨v0, rfl, hn, hb2⟩
  obtain ⟨A2, c2, e2⟩ := Kd.N_slice hn
  subst e2
  have HN := Aside0.mk hn
  have HB2 := Aside0.mk hb2
  clear hblk hb1 hf1 hs1 hW1 hn hb2
  go_wp2_with fail
  have hv2 : VW w.heap.size w2 w.heap.size (.slice none 0 0) [] 0 := ⟨(HB2.out.block _ (by have := HS1.out; omega)).trans HBK.out, Nat.le_refl _, Kd.N_nil _ _ _ _ _⟩
  refine (viewGrow_ok FL kf w.heap.size w.heap.size (.slice none 0 0) [] 0 _ A2 c2 (risL l 0) w2 hv2 (Kd.N_F HN.out) (fun k hk hlt hs => ?_) (fun i hi => HK.out _ (risL_mem l 0 (rd_mem _ i hi))) (by have := HL.out; have := risL_len l 0; simp; omega)).mono ?_
  · have h1 := HS1.out
    rcases hs with rfl | hs
    · rcases hk with hk | hk
      · exact absurd hk.2 (by omega)
      · omega
    · simp [Value.ownBlock] at hs
  rintro e w3 ⟨v', rfl, hv3, hb3, hk3, ho3⟩
  have HV3 := Aside0.mk hv3
  have HB3 := Aside0.mk ((HB1.out.trans (HB2.out.mono (by have := HS1.out; omega))).trans hb3)
  clear hv3 hb3 hk3 ho3 hv2
  go_wp2_with fail
  go_ret
  exact ⟨_, _, rfl, HV3.out, HB3.out⟩
end Go.Proofs.YtmpngedfnheilaaDoor.PP
