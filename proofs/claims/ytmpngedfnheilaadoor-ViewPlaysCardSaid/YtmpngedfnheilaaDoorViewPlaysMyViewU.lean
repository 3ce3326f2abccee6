/- YtmpngedfnheilaaDoorMyViewU, as far as ViewPlays needs it (prune.py). -/
import Derived.Test.YtmpngedfnheilaaDoorViewPlaysMyViewT
import Derived.Test.YtmpngedfnheilaaDoorViewPlaysPPx13
import Derived.Test.YtmpngedfnheilaaDoorViewPlaysPPx12
import Derived.Test.YtmpngedfnheilaaDoorViewPlaysPPx10
namespace Go.Proofs.YtmpngedfnheilaaDoor.PP
open Go.RowKit Go.Proofs.YtmpngedfnheilaaDoorW.PrintWords Go.Proofs.YtmpngedfnheilaaDoorW.PrintLast Go.Proofs.YtmpngedfnheilaaDoorW.PrintMore
open Go.Proofs.YtmpngedfnheilaaDoor.My
set_option linter.unusedVariables false
set_option linter.unusedSimpArgs false
abbrev ml (u : Int) : Ml := ⟨u, [], z41, ⟨#[]⟩, 0, 0⟩
abbrev mcv (u : Int) (A : Option Addr) (c : Nat) : List Value := [.int .i64 u, .slice A 0 c, .int .i64 0, .int .i64 0, .int .i64 0, .int .i64 0, .int .i64 0, .int .i64 0, .int .i64 0, .string ⟨#[]⟩, .int .i64 0, .int .i64 0]
theorem mailT (u : Int) (w : World) : Calls Tryd.prog 34 #[.int .i64 u] w fun e w' => ∃ A c, e = .returned (.agg (mcv u A c).toArray) ∧ Below w.heap.size w w' := by
  refine (haversacklaw18_mail.calls u u [] 0 0 0 0 0 0 0 ⟨#[]⟩ 0 0 w rfl).mono ?_
  rintro e w' ⟨v, rfl, hr, hb⟩
  obtain ⟨A, c, rfl⟩ := Kd.R_slice hr
  exact ⟨A, c, rfl, hb⟩
theorem FK_mail (u : Int) (A : Option Addr) (c : Nat) (W : World) (ok : Nat → Prop) : Kd.FK k43 W ok (ml u) (mcv u A c) :=
  k43_mkF W ok (ml u) (A1 := A) (c1 := c) (Nat.zero_le _) (fun W' _ => ⟨rfl, Nat.zero_le _, fun h => absurd h (Nat.lt_irrefl 0)⟩)
def FL0 : List ByteArray → List ByteArray := fun _ => []
theorem flags_nil : search_Flags.f 1 [] = some [] := by simp [search_Flags.f, search_Flags.l0, sortB, bsB]
theorem flags_ml (a b c : Int) : ∀ m ∈ [ml a, ml b, ml c], search_Flags.f 1 m.f1 = some (FL0 m.f1) := by
  intro m hm
  simp only [List.mem_cons, List.not_mem_nil, or_false] at hm
  rcases hm with rfl | rfl | rfl <;> exact flags_nil
theorem reps3 (W : World) (ok : Nat → Prop) (a b c : Int) (A1 A2 A3 : Option Addr) (c1 c2 c3 : Nat) : Reps (Kd.FK k43 W ok) 12 [ml a, ml b, ml c] (mcv a A1 c1 ++ mcv b A2 c2 ++ mcv c A3 c3) :=
  Reps.snoc (Reps.snoc (Reps.snoc (Reps.none _ _) (FK_mail a A1 c1 W ok) rfl) (FK_mail b A2 c2 W ok) rfl) (FK_mail c A3 c3 W ok) rfl
theorem new3 : growL FL0 (risL [ml 1, ml 2, ml 3] 0) [] 0 = ([⟨1, []⟩, ⟨2, []⟩, ⟨3, []⟩], 3) := by rfl
theorem sync3 : syncL FL0 false (risL [ml 1, ml 3, ml 5] 0) [⟨1, []⟩, ⟨2, []⟩, ⟨3, []⟩] 3 = (([⟨1, []⟩, ⟨3, []⟩, ⟨5, []⟩], 5), [⟨1, 2, []⟩, ⟨2, 3, []⟩]) := by kernel_rfl
theorem same3 : haversackref18_Same.f 10 [⟨1, 2, []⟩, ⟨2, 3, []⟩] [⟨1, 2, []⟩, ⟨2, 3, []⟩] = some true := by decide +kernel
theorem ints3 : haversackref18_Ints.f 10 [1, 3, 5] [1, 3, 5] = some true := by decide +kernel
abbrev tlc (k n : Int) : List Value := [.int .i64 k, .int .i64 n, .slice none 0 0]
abbrev ic (n : Int) : List Value := [.int .i64 n]
theorem reps_told (W : World) : Reps (Kd.FK k65 W (fun _ => True)) 3 [⟨1, 2, []⟩, ⟨2, 3, []⟩] (tlc 1 2 ++ tlc 2 3) :=
  Reps.snoc (Reps.snoc (Reps.none _ _) (Kd.FK_mono (FK9_told0 (w := W) (k := 1) (n := 2)) (fun _ _ => trivial)) rfl) (Kd.FK_mono (FK9_told0 (w := W) (k := 2) (n := 3)) (fun _ _ => trivial)) rfl
theorem reps_int3 (W : World) (base : Nat) (ok : Nat → Prop) (a b c : Int) : Reps ((Kd.int .i64).M W base ok) 1 [a, b, c] (ic a ++ ic b ++ ic c) :=
  Reps.snoc (R := (Kd.int .i64).M W base ok) (size := 1) (Reps.snoc (R := (Kd.int .i64).M W base ok) (size := 1) (Reps.snoc (R := (Kd.int .i64).M W base ok) (size := 1) (Reps.none _ _) (p := a) (c := ic a) rfl rfl) (p := b) (c := ic b) rfl rfl) (p := c) (c := ic c) rfl rfl
theorem ris5 : Ris [⟨1, []⟩, ⟨3, []⟩, ⟨5, []⟩] 5 := by
  refine ⟨fun i j hij hj => ?_, fun i hi => ?_, fun i hi => ?_, by simp⟩
  · simp only [List.length_cons, List.length_nil] at hj
    have : (i = 0 ∧ j = 1) ∨ (i = 0 ∧ j = 2) ∨ (i = 1 ∧ j = 2) := by omega
    rcases this with ⟨rfl, rfl⟩ | ⟨rfl, rfl⟩ | ⟨rfl, rfl⟩ <;> decide
  · simp only [List.length_cons, List.length_nil] at hi
    have : i = 0 ∨ i = 1 ∨ i = 2 := by omega
    rcases this with rfl | rfl | rfl <;> decide
  · simp only [List.length_cons, List.length_nil] at hi
    have : i = 0 ∨ i = 1 ∨ i = 2 := by omega
    rcases this with rfl | rfl | rfl <;> decide
theorem place5 (n : Nat) (h : IsPlace [⟨1, []⟩, ⟨3, []⟩, ⟨5, []⟩] 5 n) : n = 3 := by
  rcases h with ⟨h1, h2, h3⟩ | ⟨rfl, h⟩
  · simp only [List.length_cons, List.length_nil] at h2
    have : n = 1 ∨ n = 2 ∨ n = 3 := by omega
    rcases this with rfl | rfl | rfl
    · exact absurd h3 (by decide)
    · exact absurd h3 (by decide)
    · rfl
  · exact absurd rfl (h 2 (by decide))
theorem ris3 : Ris [⟨1, []⟩, ⟨2, []⟩, ⟨3, []⟩] 3 := by
  refine ⟨fun i j hij hj => ?_, fun i hi => ?_, fun i hi => ?_, by simp⟩
  · simp only [List.length_cons, List.length_nil] at hj
    have : (i = 0 ∧ j = 1) ∨ (i = 0 ∧ j = 2) ∨ (i = 1 ∧ j = 2) := by omega
    rcases this with ⟨rfl, rfl⟩ | ⟨rfl, rfl⟩ | ⟨rfl, rfl⟩ <;> decide
  · simp only [List.length_cons, List.length_nil] at hi
    have : i = 0 ∨ i = 1 ∨ i = 2 := by omega
    rcases this with rfl | rfl | rfl <;> decide
  · simp only [List.length_cons, List.length_nil] at hi
    have : i = 0 ∨ i = 1 ∨ i = 2 := by omega
    rcases this with rfl | rfl | rfl <;> decide
set_option maxHeartbeats 8000000 in
set_option maxRecDepth 100000 in
theorem alive_ok (w : World) : Calls Tryd.prog 11 #[] w fun e w' => e = .returned (.bool true) ∧ Below w.heap.size w w' := by
  go_enter Tryd.func11, Tryd.ntmps11
  go_wp2_with fail
  refine (mailT 1 _).mono ?_
  rintro e w1 ⟨A1, c1, rfl, hb1⟩
  have HB1 := Aside0.mk hb1
  clear hb1
  go_wp2_with fail
  refine (mailT 2 _).mono ?_
  rintro e w2 ⟨A2, c2, rfl, hb2⟩
  have HB2 := Aside0.mk (HB1.out.trans (hb2.mono HB1.out.size))
  clear hb2 HB1
  go_wp2_with fail
  refine (mailT 3 _).mono ?_
  rintro e w3 ⟨A3, c3, rfl, hb3⟩
  have HB3 := Aside0.mk (HB2.out.trans (hb3.mono HB2.out.size))
  clear hb3 HB2
  go_wp2_with (first | ((with_reducible refine gate_dst (N := 6) rfl ?_); (try (refine gate_guard (by rfl) ?_; dsimp only)); refine Kd.N_lit k43 w3.heap.size 43 ?hg (N' := 6) ?hd (w0 := w3) (xs := [ml 1, ml 2, ml 3]) (inner := mcv 1 A1 c1 ++ mcv 2 A2 c2 ++ mcv 3 A3 c3) (ok := fun _ => True) (okp := fun _ => False) ?hr (reps3 _ _ 1 2 3 A1 A2 A3 c1 c2 c3) (fun _ h => h.elim) trivial (Below.refl _ _) (Nat.le_refl _) (by simp) ?_; (case hd => rfl); (case hg => rfl); (case hr => first | (go_simp; done) | (go_simp; rfl)); intro v6 w4 ho hb hg_ hnew_; clear hg_ hnew_; obtain ⟨A4, c4, e4⟩ := Kd.N_slice ho; subst e4; have HO4 := Aside0.mk (Kd.N_F ho); have HB4 := Aside0.mk (HB3.out.trans (hb.mono HB3.out.size)); clear ho hb HB3))
  have hn := viewNew_ok FL0 1 (fun _ => True) A4 c4 [ml 1, ml 2, ml 3] w4 HO4.out (flags_ml 1 2 3) (by simp)
  rw [new3] at hn
  refine hn.mono ?_
  rintro e w5 ⟨g, v, rfl, hv5, hb5⟩
  have HV5 := Aside0.mk hv5
  have HB5 := Aside0.mk (HB4.out.trans (hb5.mono HB4.out.size))
  have HS := Aside0.mk HB4.out.size
  clear hn hv5 hb5 HB4 HO4
  go_wp2_with fail
  refine (mailT 1 _).mono ?_
  rintro e w6 ⟨A1, c1, rfl, hb1⟩
  have HV6 := Aside0.mk (HV5.out.below hb1)
  have HB6 := Aside0.mk (HB5.out.trans (hb1.mono HB5.out.size))
  clear hb1 HV5 HB5
  go_wp2_with fail
  refine (mailT 3 _).mono ?_
  rintro e w7 ⟨A2, c2, rfl, hb2⟩
  have HV7 := Aside0.mk (HV6.out.below hb2)
  have HB7 := Aside0.mk (HB6.out.trans (hb2.mono HB6.out.size))
  clear hb2 HV6 HB6
  go_wp2_with fail
  refine (mailT 5 _).mono ?_
  rintro e w8 ⟨A3, c3, rfl, hb3⟩
  have HV8 := Aside0.mk (HV7.out.below hb3)
  have HB8 := Aside0.mk (HB7.out.trans (hb3.mono HB7.out.size))
  clear hb3 HV7 HB7
  go_wp2_with (first | ((with_reducible refine gate_dst (N := 14) rfl ?_); (try (refine gate_guard (by rfl) ?_; dsimp only)); refine Kd.N_lit k43 w8.heap.size 43 ?hg (N' := 14) ?hd (w0 := w8) (xs := [ml 1, ml 3, ml 5]) (inner := mcv 1 A1 c1 ++ mcv 3 A2 c2 ++ mcv 5 A3 c3) (ok := fun k => w8.heap.size ≤ k) (okp := fun _ => False) ?hr (reps3 _ _ 1 3 5 A1 A2 A3 c1 c2 c3) (fun _ h => h.elim) (Nat.le_refl _) (Below.refl _ _) (Nat.le_refl _) (by simp) ?_; (case hd => rfl); (case hg => rfl); (case hr => first | (go_simp; done) | (go_simp; rfl)); intro v14 w9 ho hb hg_ hnew_; clear hg_ hnew_; obtain ⟨A9, c9, e9⟩ := Kd.N_slice ho; subst e9; have HO9 := Aside0.mk (Kd.N_F ho); have HB9 := Aside0.mk (HB8.out.trans (hb.mono HB8.out.size)); have HV9 := Aside0.mk (HV8.out.below hb); clear ho hb))
  have hs := viewSync_ok FL0 1 w4.heap.size g v _ 3 false (fun k => w8.heap.size ≤ k) A9 c9 [ml 1, ml 3, ml 5] w9 HV9.out ris3 HO9.out (fun k hk hlt hs => by
    rcases hs with rfl | hs
    · have := HV8.out.lt; omega
    · have := Kd.N_lt HV8.out.row k hs; omega) (flags_ml 1 3 5) (by simp)
  rw [sync3] at hs
  refine hs.mono ?_
  rintro e w10 ⟨v', vo, rfl, ho, hv, hb, _⟩
  have HV10 := Aside0.mk hv
  have HB10 := Aside0.mk (HB9.out.trans (hb.mono HS.out))
  obtain ⟨Ao, co, rfl, hlo, hCo⟩ := ho.slice
  have HO10 := Aside0.mk hCo
  have HLO := Aside0.mk hlo
  clear hs hv hb ho hCo hlo HV9 HB9 HV8 HB8 HO9
  go_wp2_with (first | ((with_reducible refine gate_dst (N := 19) rfl ?_); (try (refine gate_guard (by rfl) ?_; dsimp only)); refine Kd.N_lit k65 w10.heap.size 65 ?hg (N' := 19) ?hd (w0 := w10) (xs := [⟨1, 2, []⟩, ⟨2, 3, []⟩]) (inner := tlc 1 2 ++ tlc 2 3) (ok := fun k => True) (okp := fun _ => True) ?hr (reps_told w10) (fun _ h => h) trivial (Below.refl _ _) (Nat.le_refl _) (by simp) ?_; (case hd => rfl); (case hg => rfl); (case hr => first | (go_simp; done) | (go_simp; rfl)); intro v19 w11 ho hb hg_ hnew_; clear hg_ hnew_; obtain ⟨A11, c11, e11⟩ := Kd.N_slice ho; subst e11; have HO11 := Aside0.mk (Kd.N_reads' ho); have HB11 := Aside0.mk (HB10.out.trans (hb.mono HB10.out.size)); have HV11 := Aside0.mk (HV10.out.below hb); have HO10' := Aside0.mk (Kd.C_below HO10.out hb); clear ho hb))
  refine (haversackref18_Same.calls 10 Ao co [⟨1, 2, []⟩, ⟨2, 3, []⟩] A11 c11 [⟨1, 2, []⟩, ⟨2, 3, []⟩] true w11 HO10'.out HLO.out HO11.out.2.2 HO11.out.2.1 same3).mono ?_
  rintro e w12 ⟨rfl, hb12⟩
  have HV12 := Aside0.mk (HV11.out.below hb12)
  have HB12 := Aside0.mk (HB11.out.trans (hb12.mono HB11.out.size))
  clear hb12 HV10 HB10 HO10 HO11 HO10' HB11 HV11
  go_wp2_with fail
  refine (viewUIDs_ok w4.heap.size g v' [⟨1, []⟩, ⟨3, []⟩, ⟨5, []⟩] 5 w12 HV12.out (by simp)).mono ?_
  rintro e w13 ⟨v13, rfl, hr13, hb13⟩
  replace hr13 : Kd.R (Kd.int .i64) 3 w13 w12.heap.size (fun _ => True) v13 [1, 3, 5] := hr13
  have HV13 := Aside0.mk (HV12.out.below hb13)
  have HB13 := Aside0.mk (HB12.out.trans (hb13.mono HB12.out.size))
  obtain ⟨A13, c13, rfl⟩ := Kd.R_slice hr13
  have HR13 := Aside0.mk (Kd.R_reads' hr13)
  clear hr13 hb13 HV12 HB12
  go_wp2_with (first | ((with_reducible refine gate_dst (N := 24) rfl ?_); (try (refine gate_guard (by rfl) ?_; dsimp only)); refine Kd.R_lit (Kd.int .i64) w13.heap.size 3 ?hg (N := 24) ?hd (w0 := w13) (xs := [1, 3, 5]) (inner := ic 1 ++ ic 3 ++ ic 5) (ok := fun k => True) (okp := fun _ => True) ?hr ?hp (fun _ h => h) trivial (Below.refl _ _) (Nat.le_refl _) (by simp) ?_; (case hd => rfl); (case hg => rfl); (case hr => first | (go_simp; done) | (go_simp; rfl)); (case hp => exact reps_int3 w13 _ _ 1 3 5); intro v24 w14 ho hb hg_ hnew_; clear hg_ hnew_; obtain ⟨A14, c14, e14⟩ := Kd.R_slice ho; subst e14; have HO14 := Aside0.mk (Kd.R_reads' ho); have HB14 := Aside0.mk (HB13.out.trans (hb.mono HB13.out.size)); have HV14 := Aside0.mk (HV13.out.below hb); have HR14 := Aside0.mk (Kd.C_below HR13.out.2.2 hb); clear ho hb))
  refine (haversackref18_Ints.calls 10 A13 c13 [1, 3, 5] A14 c14 [1, 3, 5] true w14 HR14.out HR13.out.2.1 HO14.out.2.2 HO14.out.2.1 ints3).mono ?_
  rintro e w15 ⟨rfl, n15, rfl⟩
  have HV15 := Aside0.mk (HV14.out.drewN n15)
  have HB15 := Aside0.mk (pw_below_drewN HB14.out n15)
  clear HV14 HB14 HR14 HR13 HO14 HB13 HV13
  generalize w14.drewN n15 = w15 at HV15 HB15 ⊢
  go_wp2_with fail
  refine (viewCount_ok w4.heap.size g v' [⟨1, []⟩, ⟨3, []⟩, ⟨5, []⟩] 5 _ HV15.out).mono ?_
  rintro e w16 ⟨rfl, n16, rfl⟩
  have HV16 := Aside0.mk (HV15.out.drewN n16)
  have HB16 := Aside0.mk (pw_below_drewN HB15.out n16)
  clear HV15 HB15
  generalize w15.drewN n16 = w16 at HV16 HB16 ⊢
  go_wp2_with fail
  refine (viewPlace_ok w4.heap.size g v' [⟨1, []⟩, ⟨3, []⟩, ⟨5, []⟩] 5 5 _ HV16.out ris5).mono ?_
  rintro e w17 ⟨n, rfl, hn, hb17⟩
  obtain rfl := place5 n hn
  have HV17 := Aside0.mk (HV16.out.below hb17)
  have HB17 := Aside0.mk (HB16.out.trans (hb17.mono HB16.out.size))
  clear hb17 HV16 HB16 hn
  go_wp2_with fail
  refine (viewUID_ok w4.heap.size g v' [⟨1, []⟩, ⟨3, []⟩, ⟨5, []⟩] 5 2 _ HV17.out (by decide)).mono ?_
  rintro e w18 ⟨rfl, n18, rfl⟩
  have HV18 := Aside0.mk (HV17.out.drewN n18)
  have HB18 := Aside0.mk (pw_below_drewN HB17.out n18)
  rw [show uidAt [⟨1, []⟩, ⟨3, []⟩, ⟨5, []⟩] 2 = 3 by rfl]
  clear HV17 HB17
  generalize w17.drewN n18 = w18 at HV18 HB18 ⊢
  go_wp2_with fail
  refine (viewMax_ok w4.heap.size g v' [⟨1, []⟩, ⟨3, []⟩, ⟨5, []⟩] 5 _ HV18.out (by simp)).mono ?_
  rintro e w19 ⟨rfl, n19, rfl⟩
  have HB19 := Aside0.mk (pw_below_drewN HB18.out n19)
  rw [show uidAt [⟨1, []⟩, ⟨3, []⟩, ⟨5, []⟩] ((List.length [(⟨1, []⟩ : Pl), ⟨3, []⟩, ⟨5, []⟩] : Nat) : Int) = 5 by rfl]
  clear HV18 HB18
  go_wp2_with fail
  go_ret
  exact ⟨rfl, HB19.out⟩
end Go.Proofs.YtmpngedfnheilaaDoor.PP
