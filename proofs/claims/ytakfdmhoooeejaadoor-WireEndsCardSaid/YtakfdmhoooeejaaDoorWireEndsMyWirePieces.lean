/- YtakfdmhoooeejaaDoorMyWirePieces, as far as WireEnds needs it (prune.py). -/
import Derived.Test.YtakfdmhoooeejaaDoorWireEndsMyWireJ
import Derived.Test.YtakfdmhoooeejaaDoorWireEndsMyWireL
import Derived.Test.YtakfdmhoooeejaaDoorWireEndsKindsPP
namespace Go.Proofs.YtakfdmhoooeejaaDoor.PP
open Go.RowKit Go.Proofs.YtakfdmhoooeejaaDoorW.PrintWords Go.Proofs.YtakfdmhoooeejaaDoorW.PrintLast Go.Proofs.YtakfdmhoooeejaaDoorW.PrintMore
open Go.Proofs.YtakfdmhoooeejaaDoor.My
set_option linter.unusedVariables false
set_option linter.unusedSimpArgs false
theorem F_bytes (w : World) (s : List UInt8) (hm : s.length ≤ 1000000000) : Kd.F (Kd.int .u8) (Lib.bytesWorld w 5 (str s)) (fun k => k = w.heap.size) (some ⟨w.heap.size, 0, none⟩) s.length (nb s) :=
  F_cells (fun j hj => Lib.bytesWorld_cell w _ _ j hj) hm rfl
theorem bytes_run (w : World) (s : ByteArray) : (convert 9 31 (.string s)).run Tryd.prog w = .ok (.slice (some ⟨w.heap.size, 0, none⟩) s.size (grownCap w s.size 0 5)) (Lib.bytesWorld w 5 s) :=
  Lib.run_convert_string_bytes w _ _ _ s Tryd.underlying9 Tryd.underlying31 Tryd.underlying5
/-- What is told already, of blocks below base2, none of the feed's. -/
abbrev VN (w : World) (base base2 g : Nat) (V : FV) (v : Value) (l : List Evt) : Prop := Kd.N k39 39 w base (fun k => k < base2 ∧ ¬ FB g V k) v l
theorem VN.after {W w' : World} {base base2 N0 g : Nat} {V V' : FV} {v : Value} {l : List Evt} (h : VN W base base2 g V v l) (hx : FX N0 g W V w' V') (hle : base2 ≤ W.heap.size) : VN w' base base2 g V' v l :=
  Kd.N_mono (Kd.N_kept (Kd.N_bound h) hx.kept (fun k hk => hk.1.2)) (fun k hk => ⟨hk.1.1, fun hf => (hx.own k hf).elim hk.1.2 (fun hle' => by have := hk.1.1; omega)⟩)
theorem VN.below {W w' : World} {base base2 g : Nat} {V : FV} {v : Value} {l : List Evt} (h : VN W base base2 g V v l) (hb : Below base2 W w') : VN w' base base2 g V v l :=
  Kd.N_mono (Kd.N_kept (S := fun k => base2 ≤ k) (Kd.N_bound h) ⟨hb.size, fun k _ hs => hb.block k (by omega)⟩ (fun k hk => by have := hk.1.1; omega)) (fun k hk => hk.1)
theorem evs_texts {s : FS} (h : Inv s) (c : UInt8) : ∀ x ∈ (stepS s c).2, x.f1.f0.length ≤ 22 ∧ x.f1.f1.length ≤ 20 := by
  have h1 := h.texts
  have h2 := h.ll
  have he : ∀ l, ∀ x ∈ (endLineS s l).2, x.f1.f0.length ≤ 22 ∧ x.f1.f1.length ≤ 20 := by
    intro l x hx
    unfold endLineS at hx
    split at hx
    · rw [List.mem_singleton.1 hx]; simp [evt]; omega
    · split at hx
      · rw [List.mem_singleton.1 hx]; simp [evt]; omega
      · split at hx
        · cases hx
        · rw [List.mem_singleton.1 hx]; simp [evt]
  intro x hx
  unfold stepS at hx
  split at hx
  · unfold inLineS at hx
    split at hx
    · exact he _ x hx
    · generalize s.size + (s.line.length + 1) - (if c = 13 then 1 else 0) = n at hx
      split at hx
      · cases hx
      · rw [List.mem_singleton.1 hx]; simp [evt]; omega
  · cases hx
  · cases hx
  · cases hx
theorem evs_texts_take : ∀ (l : List UInt8) {s : FS}, Inv s → ∀ x ∈ (takeS s l).2, x.f1.f0.length ≤ 22 ∧ x.f1.f1.length ≤ 20
  | [], s, h, x, hx => by cases hx
  | c :: l, s, h, x, hx => by
    rw [takeS] at hx
    rcases List.mem_append.1 hx with hx | hx
    · exact evs_texts h c x hx
    · exact evs_texts_take l (h.step c) x hx
theorem cut_in (cv : Int) (n : Nat) (hn : n ≤ 180000) {c : Int} (h : (wrap64 (wrap64 (cv.tmod (wrap64 ((n : Int) + 1)) + (n : Int)) + 1)).tmod (wrap64 ((n : Int) + 1)) = c) : 0 ≤ c ∧ c ≤ (n : Int) := by
  have e1 : wrap64 ((n : Int) + 1) = (n : Int) + 1 := w64 (by omega)
  rw [e1] at h
  have h1 := Int.tmod_lt_of_pos cv (show (0 : Int) < (n : Int) + 1 by omega)
  have h2 : -((n : Int) + 1) < cv.tmod ((n : Int) + 1) := by
    have := Int.tmod_lt_of_pos (-cv) (show (0 : Int) < (n : Int) + 1 by omega)
    rw [Int.neg_tmod] at this
    omega
  generalize cv.tmod ((n : Int) + 1) = t at h h1 h2
  rw [w64 (show -9223372036854775808 ≤ t + (n : Int) ∧ t + (n : Int) ≤ 9223372036854775807 by omega), w64 (by omega)] at h
  have h3 := Int.tmod_lt_of_pos (t + (n : Int) + 1) (show (0 : Int) < (n : Int) + 1 by omega)
  have h4 := Int.tmod_nonneg ((n : Int) + 1) (show (0 : Int) ≤ t + (n : Int) + 1 by omega)
  omega
set_option maxHeartbeats 8000000 in
set_option maxRecDepth 100000 in
theorem haversacklaw13_WirePieces.holds (A0 : Option Addr) (c0 : Nat) (l0 : List S47) (A1 : Option Addr) (c1 : Nat) (l1 : List Int) (w : World) (hr0 : Kd.C k47 w A0 l0.length l0) (hc0 : l0.length ≤ c0) (m0 : l0.length ≤ maxLen) (q0 : ∀ z ∈ l0, Q47 z) (hr1 : Kd.C (Kd.int .i64) w A1 l1.length l1) (hc1 : l1.length ≤ c1) (m1 : l1.length ≤ maxLen) (q1 : ∀ z ∈ l1, (Lit.int .i64 z).wf = true) :
    Calls Tryd.prog 3 #[.slice A0 l0.length c0, .slice A1 l1.length c1] w fun e w' => e = .returned (.bool true) ∧ Below w.heap.size w w' := by
  obtain ⟨⟨tx, ok⟩, hev, hok⟩ := text_ev l0
  obtain ⟨k, hk⟩ := hev.ex
  have HK := Aside0.mk hk
  have HOK := Aside0.mk hok
  have HR0 := Aside0.mk hr0
  have HR1 := Aside0.mk hr1
  have HM := Aside0.mk (And.intro hc0 m1)
  clear hev hok hk hr0 hc0 m0 q0 hr1 hc1 m1 q1
  go_enter Tryd.func3, Tryd.ntmps3
  go_wp2_with fail
  refine (haversacklaw13_text.calls k A0 c0 l0 tx ok w HR0.out HM.out.1 HK.out).mono ?_
  rintro e w1 ⟨rfl, hb1⟩
  have HB1 := Aside0.mk hb1
  clear hb1 HR0 HK
  cases ok with
  | false =>
    go_wp2_with fail
    refine (alive_ok _).mono ?_
    rintro e w3 ⟨rfl, hb⟩
    have HB := Aside0.mk (HB1.out.trans (hb.mono HB1.out.size))
    clear hb
    go_wp2_with fail
    go_ret
    exact ⟨rfl, HB.out⟩
  | true =>
    have HT := Aside0.mk (HOK.out rfl)
    by_cases h40 : ((l1.length : Int) > 40)
    · have h40b : decide ((40 : Int) < (l1.length : Int)) = true := decide_eq_true (by omega)
      have h40c := eq_true (show 40 < l1.length by omega)
      clear h40
      go_wp2_with fail
      refine (alive_ok _).mono ?_
      rintro e w3 ⟨rfl, hb⟩
      have HB := Aside0.mk (HB1.out.trans (hb.mono HB1.out.size))
      clear hb
      go_wp2_with fail
      go_ret
      exact ⟨rfl, HB.out⟩
    · have h40b : decide ((40 : Int) < (l1.length : Int)) = false := decide_eq_false (by omega)
      have h40c := eq_false (show ¬ 40 < l1.length by omega)
      have H40 := Aside0.mk h40
      clear h40
      go_wp2_with fail
      refine (new_ok _).mono ?_
      rintro e w2 ⟨rfl, hw2, hb2⟩
      obtain ⟨fb, hfb⟩ : ∃ fb, fb = w1.heap.size := ⟨_, rfl⟩
      rw [← hfb] at hw2 ⊢
      have HFB := Aside0.mk hfb
      have HF2 := Aside0.mk hw2
      have HB2 := Aside0.mk (HB1.out.trans (hb2.mono HB1.out.size))
      clear hw2 hb2 hfb
      go_wp2_with fail
      refine (new_ok _).mono ?_
      rintro e w3 ⟨rfl, hw3, hb3⟩
      obtain ⟨gb, hgb⟩ : ∃ gb, gb = w2.heap.size := ⟨_, rfl⟩
      rw [← hgb] at hw3 ⊢
      have HGB := Aside0.mk (And.intro (show fb < gb by rw [hgb]; exact HF2.out.lt) (show gb < w3.heap.size from hw3.lt))
      have HF3 := Aside0.mk (HF2.out.below hb3)
      have HG3 := Aside0.mk hw3
      have HB3 := Aside0.mk (HB2.out.trans (hb3.mono HB2.out.size))
      have HN := Aside0.mk (show w.heap.size ≤ fb by rw [HFB.out]; exact HB1.out.size)
      clear hw3 hb3 hgb HF2 HFB
      obtain ⟨L, rfl⟩ : ∃ L, tx = str L := ⟨tx.data.toList, rfl⟩
      have hcv := bytes_run w3 (str L)
      go_wp2_with fail
      have hba := below_bytesW w3 5 (str L)
      have hsz := Lib.bytesWorld_size w3 5 (str L)
      have hL : L.length ≤ 180000 := HT.out
      refine (take_ok fb fb _ (fun k => k = w3.heap.size) _ vnil fs0 _ _ L (HF3.out.below hba) Inv.zero (by have := HGB.out; omega) rfl (by omega) (F_bytes w3 L (by omega)) (fun k hk hf => by have := HF3.out.fb_lt k hf; omega)).mono ?_
      rintro e w4 ⟨va, Vf, rfl, he, hw, hx⟩
      have hfn : ¬ FB fb vnil gb := fun hf => by have := FB_nil fb gb hf; have := HGB.out; omega
      have hgl : gb < (Lib.bytesWorld w3 5 (str L)).heap.size := by have := HGB.out; omega
      have HG4 := Aside0.mk ((HG3.out.below hba).keep (fun k hk => by obtain rfl := FB_nil gb k hk; exact hx.kept.2 k hgl hfn))
      have HF4 := Aside0.mk hw
      have HD4 := Aside0.mk (show ∀ k, FB fb Vf k → ¬ FB gb vnil k from fun k hk hg => by
        obtain rfl := FB_nil gb k hg
        rcases hx.own k hk with h | h
        · exact hfn h
        · omega)
      obtain ⟨base, hbase⟩ : ∃ b, b = (Lib.bytesWorld w3 5 (str L)).heap.size := ⟨_, rfl⟩
      rw [← hbase] at he hgl
      obtain ⟨base2, hbase2⟩ : ∃ b, b = w4.heap.size := ⟨_, rfl⟩
      have HA4 := Aside0.mk (show VN w4 base base2 gb vnil va (takeS fs0 L).2 from Kd.N_mono (Kd.N_bound he) (fun k hk => ⟨by rw [hbase2]; exact hk.2, fun hf => by have := FB_nil gb k hf; have := hk.1.1; omega⟩))
      have HX := Aside0.mk (And.intro (show gb < base2 by have : base ≤ w4.heap.size := by { rw [hbase]; exact hx.kept.1 }; omega) (show ∀ k, FB fb Vf k → k < base2 from fun k hk => by rw [hbase2]; exact hw.fb_lt k hk))
      have HX2 := Aside0.mk (Nat.le_of_eq hbase2)
      have HB4 := Aside0.mk (show Below w.heap.size w w4 from (HB3.out.trans (hba.mono HB3.out.size)).trans (hx.bel.mono HN.out))
      clear he hw hx hfn hgl hba hsz hcv hbase hbase2 HG3 HF3 HB3 HB1 HB2
      have HLL := Aside0.mk hL
      clear hL
      go_wp2_with fail
      go_loopg [5, 10, 34] l1.length (fun kq v5 v10 v34 wr => ∃ (x : Int) (i : Nat) (p q : List UInt8) (V1 : FV), v34 = .int .i64 x ∧ v5 = .string (str q) ∧ Aside0 (x = i ∧ i + kq = l1.length ∧ L = p ++ q) ∧ Aside0 (EN wr base2 gb V1 v10 (takeS fs0 p).2) ∧ Aside0 (FW gb wr gb V1 (takeS fs0 p).1) ∧ Aside0 (FW fb wr fb Vf (takeS fs0 L).1) ∧ Aside0 (VN wr base base2 gb V1 va (takeS fs0 L).2) ∧ Aside0 (∀ k, FB fb Vf k → ¬ FB gb V1 k) ∧ Aside0 (Below w.heap.size w wr ∧ base2 ≤ wr.heap.size))
      case atStart => exact ⟨0, 0, [], L, vnil, rfl, rfl, ⟨rfl, by omega, rfl⟩, ⟨EN.none _ _ _ _⟩, HG4, HF4, HA4, HD4, ⟨HB4.out, HX2.out⟩⟩
      case round =>
        obtain ⟨x, i, p, q, V1, rfl, rfl, HXI, HE, HG, HF, HA, HD, HB⟩ := hrel
        cases gk with
        | zero =>
          have c1b : decide (x < (l1.length : Int)) = false := decide_eq_false (by have := HXI.out; omega)
          have hqz : (str q).size = q.length := rfl
          have HQ := Aside0.mk (show q.length ≤ 180000 by have := HXI.out.2.2; have h2 := HLL.out; rw [this] at h2; simp at h2; omega)
          have hcv := bytes_run wr (str q)
          go_wp2_with fail
          have hba := below_bytesW wr 5 (str q)
          have hsz := Lib.bytesWorld_size wr 5 (str q)
          have HSN := Aside0.mk (takeS_app p (q) fs0)
          have HLE := Aside0.mk (And.intro (show (takeS fs0 p).2.length ≤ 180000 by have := evs_take p fs0; have h2 := HXI.out.2.2; have h3 := HLL.out; rw [h2] at h3; simp at h3; omega) (show (takeS (takeS fs0 p).1 (q)).2.length ≤ 180000 by have := evs_take (q) (takeS fs0 p).1; have h2 := HQ.out; (try simp only [List.length_take] at this); omega))
          have HI1 := Aside0.mk (Inv.take p Inv.zero)
          generalize takeS fs0 p = qq at HE HG HSN HLE HI1
          obtain ⟨s1, ev⟩ := qq
          dsimp only at HE HG HSN HLE HI1
          refine (take_ok gb gb _ (fun k => k = wr.heap.size) _ V1 s1 _ _ (q) (HG.out.below hba) HI1.out (by have := HX.out.1; have := HB.out.2; omega) rfl (by have := HQ.out; (try simp only [List.length_take]); omega) (F_bytes wr (q) (by have := HQ.out; (try simp only [List.length_take]); omega)) (fun k hk hf => by have := HG.out.fb_lt k hf; omega)).mono ?_
          rintro e w5 ⟨vo, V2, rfl, he, hw, hx⟩
          have HB5 := Aside0.mk (show Below w.heap.size w w5 from (HB.out.1.trans (hba.mono HB.out.1.size)).trans (hx.bel.mono (by have := HN.out; have := HGB.out; omega)))
          have HS5 := Aside0.mk (show wr.heap.size ≤ (Lib.bytesWorld wr 5 (str q)).heap.size ∧ (Lib.bytesWorld wr 5 (str q)).heap.size ≤ w5.heap.size from ⟨hba.size, hx.kept.1⟩)
          have HE5 := Aside0.mk (EN.after (Kd.N_below HE.out hba) hx)
          have HO5 := Aside0.mk (Kd.N_lt HE.out)
          have HA5 := Aside0.mk (VN.after (Kd.N_below HA.out hba) hx (by have := HB.out.2; have := hba.size; omega))
          have HF5 := Aside0.mk ((HF.out.below hba).keep (fun k hk => hx.kept.2 k (by have := HF.out.fb_lt k hk; omega) (HD.out k hk)))
          have HD5 := Aside0.mk (show ∀ k, FB fb Vf k → ¬ FB gb V2 k from fun k hk hg => by
            rcases hx.own k hg with h | h
            · exact HD.out k hk h
            · have := HF.out.fb_lt k hk; omega)
          have HG5 := Aside0.mk hw
          have HE6 := Aside0.mk he
          clear he hw hx hba hsz hcv HE HG HF HA HD HI1
          generalize (Lib.bytesWorld wr 5 (str q)).heap.size = bsz at HS5 HE6
          have HT5 := Aside0.mk (show base2 ≤ bsz ∧ base2 ≤ w5.heap.size by have := HS5.out; have := HB.out.2; omega)
          generalize takeS s1 (q) = q2 at HE6 HG5 HSN HLE
          obtain ⟨s2, ev2⟩ := q2
          dsimp only at HE6 HG5 HSN HLE
          obtain ⟨Ao, co, eo⟩ := Kd.N_slice HE5.out
          subst eo
          obtain ⟨Av, cv', ev'⟩ := Kd.N_slice HE6.out
          subst ev'
          go_wp2_with (first | ((with_reducible refine gate_builtin (b := .append) (xs := #[.tmp 63, .tmp 67]) rfl ?_); (try (refine gate_guard (by rfl) ?_; dsimp only)); at_builtin; refine Kd.N_append_rows k39 (w0 := w5) base2 rfl (.tmp 63) (.tmp 67) 29 39 zEv 56 rfl Tryd.underlying29 infE rfl (by decide) (by omega) (.slice Ao ev.length co) ev ev2 Av ev2.length cv' (fun k => base2 ≤ k ∧ ¬ FB gb V2 k) (fun k => bsz ≤ k ∧ ¬ FB gb V2 k) rfl rfl HE5.out (Kd.N_F HE6.out) ?aK ?aF (Below.refl _ _) ?aS ?aL ?_; (case aK => exact fun k hk => ⟨⟨Nat.le_trans HT5.out.1 hk.1, hk.2⟩, fun e => by have := HO5.out k e.symm; have := hk.1; have := HS5.out; omega⟩); (case aF => exact fun k hk => ⟨Nat.le_trans HT5.out.2 hk, fun hf => by have := HG5.out.fb_lt k hf; omega⟩); (case aS => exact HT5.out.2); (case aL => have := HLE.out; omega); intro v58 w6 ho hb hg hat; have HO6 := Aside0.mk ho; have HG6 := Aside0.mk (HG5.out.keep (fun k hk => hg.block k (HG5.out.fb_lt k hk) (fun e => (HE5.out.1 k e.symm).2 hk))); have HF6 := Aside0.mk (HF5.out.keep (fun k hk => hb.block k (HX.out.2 k hk))); have HA6 := Aside0.mk (HA5.out.below hb); have HB6 := Aside0.mk (And.intro (HB5.out.trans (hb.mono (by have := HX.out.1; have := HGB.out; have := HN.out; omega))) (Nat.le_trans HT5.out.2 hb.size)); clear ho hb hg hat))
          have HAL := Aside0.mk (show (takeS fs0 L) = (s2, ev ++ ev2) by rw [HXI.out.2.2]; exact HSN.out)
          have HSE := Aside0.mk (same_ev (takeS fs0 L).2 (by have := evs_take L fs0; have := HLL.out; omega) (fun x hx => by have := evs_texts_take L Inv.zero x hx; omega))
          rw [HAL.out] at HA6 HF6 HSE
          dsimp only at HA6 HF6 HSE
          obtain ⟨ke, hke⟩ := HSE.out.ex
          have HKE := Aside0.mk hke
          clear hke
          obtain ⟨Aa, ca, ea⟩ := Kd.N_slice HA6.out
          subst ea
          obtain ⟨Ab, cb, eb⟩ := Kd.N_slice HO6.out
          subst eb
          have ha := Kd.N_reads' HA6.out
          have hb' := Kd.N_reads' HO6.out
          refine (haversackref13_Same.calls ke Aa ca (ev ++ ev2) Ab cb (ev ++ ev2) true _ ha.2.2 ha.2.1 hb'.2.2 hb'.2.1 HKE.out).mono ?_
          rintro e w7 ⟨rfl, hb7⟩
          have HF7 := Aside0.mk (HF6.out.below hb7)
          have HG7 := Aside0.mk (HG6.out.below hb7)
          have HB7 := Aside0.mk (HB6.out.1.trans (hb7.mono HB6.out.1.size))
          clear ha hb' hb7
          go_wp2_with fail
          refine (idle_ok fb fb _ Vf s2 HF7.out).mono ?_
          rintro e w8 ⟨rfl, rfl⟩
          go_wp2_with fail
          refine (idle_ok gb gb _ V2 s2 HG7.out).mono ?_
          rintro e w9 ⟨rfl, rfl⟩
          have hbe : (idleS s2 == idleS s2) = true := by simp
          generalize idleS s2 = ib at hbe ⊢
          go_wp2_with fail
          refine (alive_ok _).mono ?_
          rintro e w10 ⟨rfl, hb⟩
          have HB10 := Aside0.mk (HB7.out.trans (hb.mono HB7.out.size))
          clear hb
          go_wp2_with fail
          go_ret
          exact ⟨rfl, HB10.out⟩
        | succ k1 =>
          have z1 : x < (l1.length : Int) := by have := HXI.out; omega
          have z0 : 0 ≤ x := by have := HXI.out; omega
          have c1b : decide (x < (l1.length : Int)) = true := decide_eq_true z1
          obtain ⟨ad, rfl, hx0⟩ := Kd.at_int (Kd.C_below HR1.out HB.out.1) x z0 z1
          have z0b := eq_true z0
          have z1b := eq_true z1
          generalize rd l1 x = cv at hx0
          have hqz : (str q).size = q.length := rfl
          have HQ := Aside0.mk (show q.length ≤ 180000 by have := HXI.out.2.2; have h2 := HLL.out; rw [this] at h2; simp at h2; omega)
          have hd0 := eq_false (show ¬ wrap64 ((q.length : Int) + 1) = 0 by have := HQ.out; unfold wrap64; omega)
          clear z0 z1
          go_upto_region 11 with fail
          obtain ⟨cc, hcc⟩ : ∃ c, (wrap64 (wrap64 (cv.tmod (wrap64 ((q.length : Int) + 1)) + (q.length : Int)) + 1)).tmod (wrap64 ((q.length : Int) + 1)) = c := ⟨_, rfl⟩
          rw [hcc]
          have HC := Aside0.mk (cut_in cv q.length HQ.out hcc)
          clear hcc hd0 hx0 z0b z1b c1b
          have r0 := eq_true HC.out.1
          have r1 := eq_true HC.out.2
          have hex : (str q).extract 0 cc.toNat = str (q.take cc.toNat) := by rw [str_extract, List.drop_zero]
          have hcv := bytes_run wr (str (q.take cc.toNat))
          go_upto_region 12 with fail
          have HCQ := Aside0.mk (show p ++ q = (p ++ q.take cc.toNat) ++ q.drop cc.toNat by rw [List.append_assoc, List.take_append_drop])
          have hex2 : (str q).extract cc.toNat q.length = str (q.drop cc.toNat) := by rw [str_extract, List.take_length]
          have hba := below_bytesW wr 5 (str (q.take cc.toNat))
          have hsz := Lib.bytesWorld_size wr 5 (str (q.take cc.toNat))
          have HSN := Aside0.mk (takeS_app p (q.take cc.toNat) fs0)
          have HLE := Aside0.mk (And.intro (show (takeS fs0 p).2.length ≤ 180000 by have := evs_take p fs0; have h2 := HXI.out.2.2; have h3 := HLL.out; rw [h2] at h3; simp at h3; omega) (show (takeS (takeS fs0 p).1 (q.take cc.toNat)).2.length ≤ 180000 by have := evs_take (q.take cc.toNat) (takeS fs0 p).1; have h2 := HQ.out; (try simp only [List.length_take] at this); omega))
          have HI1 := Aside0.mk (Inv.take p Inv.zero)
          generalize takeS fs0 p = qq at HE HG HSN HLE HI1
          obtain ⟨s1, ev⟩ := qq
          dsimp only at HE HG HSN HLE HI1
          refine (take_ok gb gb _ (fun k => k = wr.heap.size) _ V1 s1 _ _ (q.take cc.toNat) (HG.out.below hba) HI1.out (by have := HX.out.1; have := HB.out.2; omega) rfl (by have := HQ.out; (try simp only [List.length_take]); omega) (F_bytes wr (q.take cc.toNat) (by have := HQ.out; (try simp only [List.length_take]); omega)) (fun k hk hf => by have := HG.out.fb_lt k hf; omega)).mono ?_
          rintro e w5 ⟨vo, V2, rfl, he, hw, hx⟩
          have HB5 := Aside0.mk (show Below w.heap.size w w5 from (HB.out.1.trans (hba.mono HB.out.1.size)).trans (hx.bel.mono (by have := HN.out; have := HGB.out; omega)))
          have HS5 := Aside0.mk (show wr.heap.size ≤ (Lib.bytesWorld wr 5 (str (q.take cc.toNat))).heap.size ∧ (Lib.bytesWorld wr 5 (str (q.take cc.toNat))).heap.size ≤ w5.heap.size from ⟨hba.size, hx.kept.1⟩)
          have HE5 := Aside0.mk (EN.after (Kd.N_below HE.out hba) hx)
          have HO5 := Aside0.mk (Kd.N_lt HE.out)
          have HA5 := Aside0.mk (VN.after (Kd.N_below HA.out hba) hx (by have := HB.out.2; have := hba.size; omega))
          have HF5 := Aside0.mk ((HF.out.below hba).keep (fun k hk => hx.kept.2 k (by have := HF.out.fb_lt k hk; omega) (HD.out k hk)))
          have HD5 := Aside0.mk (show ∀ k, FB fb Vf k → ¬ FB gb V2 k from fun k hk hg => by
            rcases hx.own k hg with h | h
            · exact HD.out k hk h
            · have := HF.out.fb_lt k hk; omega)
          have HG5 := Aside0.mk hw
          have HE6 := Aside0.mk he
          clear he hw hx hba hsz hcv HE HG HF HA HD HI1
          generalize (Lib.bytesWorld wr 5 (str (q.take cc.toNat))).heap.size = bsz at HS5 HE6
          have HT5 := Aside0.mk (show base2 ≤ bsz ∧ base2 ≤ w5.heap.size by have := HS5.out; have := HB.out.2; omega)
          generalize takeS s1 (q.take cc.toNat) = q2 at HE6 HG5 HSN HLE
          obtain ⟨s2, ev2⟩ := q2
          dsimp only at HE6 HG5 HSN HLE
          obtain ⟨Ao, co, eo⟩ := Kd.N_slice HE5.out
          subst eo
          obtain ⟨Av, cv', ev'⟩ := Kd.N_slice HE6.out
          subst ev'
          go_wp2_with (first | ((with_reducible refine gate_builtin (b := .append) (xs := #[.tmp 51, .tmp 57]) rfl ?_); (try (refine gate_guard (by rfl) ?_; dsimp only)); at_builtin; refine Kd.N_append_rows k39 (w0 := w5) base2 rfl (.tmp 51) (.tmp 57) 29 39 zEv 56 rfl Tryd.underlying29 infE rfl (by decide) (by omega) (.slice Ao ev.length co) ev ev2 Av ev2.length cv' (fun k => base2 ≤ k ∧ ¬ FB gb V2 k) (fun k => bsz ≤ k ∧ ¬ FB gb V2 k) rfl rfl HE5.out (Kd.N_F HE6.out) ?aK ?aF (Below.refl _ _) ?aS ?aL ?_; (case aK => exact fun k hk => ⟨⟨Nat.le_trans HT5.out.1 hk.1, hk.2⟩, fun e => by have := HO5.out k e.symm; have := hk.1; have := HS5.out; omega⟩); (case aF => exact fun k hk => ⟨Nat.le_trans HT5.out.2 hk, fun hf => by have := HG5.out.fb_lt k hf; omega⟩); (case aS => exact HT5.out.2); (case aL => have := HLE.out; omega); intro v58 w6 ho hb hg hat; have HO6 := Aside0.mk ho; have HG6 := Aside0.mk (HG5.out.keep (fun k hk => hg.block k (HG5.out.fb_lt k hk) (fun e => (HE5.out.1 k e.symm).2 hk))); have HF6 := Aside0.mk (HF5.out.keep (fun k hk => hb.block k (HX.out.2 k hk))); have HA6 := Aside0.mk (HA5.out.below hb); have HB6 := Aside0.mk (And.intro (HB5.out.trans (hb.mono (by have := HX.out.1; have := HGB.out; have := HN.out; omega))) (Nat.le_trans HT5.out.2 hb.size)); clear ho hb hg hat))
          go_roundg k1
          case measure => omega
          case rel => exact ⟨wrap64 (x + 1), i + 1, p ++ q.take cc.toNat, q.drop cc.toNat, V2, rfl, rfl, ⟨by have := HXI.out; have := H40.out; unfold wrap64; omega, by have := HXI.out; omega, by rw [HXI.out.2.2]; exact HCQ.out⟩, ⟨by rw [HSN.out]; exact HO6.out⟩, ⟨by rw [HSN.out]; exact HG6.out⟩, HF6, HA6, HD5, HB6⟩
end Go.Proofs.YtakfdmhoooeejaaDoor.PP
