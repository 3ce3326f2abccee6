/- MyViewTells, PPx20 (mergeall.py). -/
import Derived.Test.YtmpngedfnheilaaDoorViewPlaysMyViewFo
import Derived.Test.YtmpngedfnheilaaDoorViewPlaysMyViewV
import Derived.Test.YtmpngedfnheilaaDoorViewPlaysMyViewU
import Derived.Test.YtmpngedfnheilaaDoorViewPlaysKindsPP
import Derived.Test.YtmpngedfnheilaaDoorViewPlaysPPx19
import Derived.Test.YtmpngedfnheilaaDoorViewPlaysPPx0
import Derived.Test.YtmpngedfnheilaaDoorViewPlaysPPx13
namespace Go.Proofs.YtmpngedfnheilaaDoor.PP
open Go.RowKit Go.Proofs.YtmpngedfnheilaaDoorW.PrintWords Go.Proofs.YtmpngedfnheilaaDoorW.PrintLast Go.Proofs.YtmpngedfnheilaaDoorW.PrintMore
open Go.Proofs.YtmpngedfnheilaaDoor.My
set_option linter.unusedVariables false
set_option linter.unusedSimpArgs false
theorem rdi_drop (l : List Int) (i : Nat) (h : i < l.length) : l.drop i = rd l i :: l.drop (i + 1) := by
  rw [List.drop_eq_getElem_cons h]
  unfold rd
  simp [List.getD_eq_getElem?_getD, List.getElem?_eq_getElem h]
theorem ints_l (a b : List Int) (hl : a.length = b.length) (hb : a.length ≤ 1000000000) : ∀ (n i : Nat), i + n = a.length → Ev (fun k => haversackref18_Ints.l0 k a b i) (decide (a.drop i = b.drop i))
  | 0, i, h => Ev.now (fun k => by
    rw [haversackref18_Ints.l0, if_neg (by omega), List.drop_of_length_le (by omega), List.drop_of_length_le (by omega)]
    simp)
  | n + 1, i, h => by
    rw [rdi_drop a i (by omega), rdi_drop b i (by omega)]
    by_cases he : rd a i = rd b i
    · have ih := ints_l a b hl hb n (i + 1) (by omega)
      rw [he]
      simp only [List.cons.injEq, true_and]
      exact Ev.go (fun k => by rw [haversackref18_Ints.l0, if_pos (by omega), if_pos (by omega), if_pos (by omega), if_pos he, w64s (by omega)]) ih
    · have : decide (rd a i :: a.drop (i + 1) = rd b i :: b.drop (i + 1)) = false := by simp [he]
      rw [this]
      exact Ev.now (fun k => by rw [haversackref18_Ints.l0, if_pos (by omega), if_pos (by omega), if_pos (by omega), if_neg he])
theorem Ints_ev (a b : List Int) (ha : a.length ≤ 1000000000) : Ev (fun k => haversackref18_Ints.f k a b) (decide (a = b)) := by
  unfold haversackref18_Ints.f
  by_cases hl : a.length = b.length
  · have := ints_l a b hl ha a.length 0 (by omega)
    simp only [List.drop_zero] at this
    simp only [if_pos (show (a.length : Int) = b.length by omega)]
    exact this
  · have h2 : decide (a = b) = false := decide_eq_false (fun e => hl (by rw [e]))
    simp only [if_neg (show ¬ (a.length : Int) = b.length by omega)]
    rw [h2]
    exact Ev.ret _
theorem folL_len : ∀ (ts : List Tl) (own fresh : List Int), (folL ts own fresh).1.length ≤ own.length + fresh.length
  | [], own, fresh => by simp [folL]
  | t :: ts, own, fresh => by
    unfold folL
    split
    · have := folL_len ts (own.eraseIdx (t.f1 - 1).toNat) fresh
      have h2 := List.length_eraseIdx_le own (t.f1 - 1).toNat
      omega
    · split
      · have := folL_len ts (own ++ fresh.take (t.f1 - (own.length : Int)).toNat) (fresh.drop (t.f1 - (own.length : Int)).toNat)
        rw [List.length_append, List.length_take, List.length_drop] at this
        omega
      · split
        · exact folL_len ts own fresh
        · show own.length ≤ _
          omega
theorem rfol_l1 (ts : List Tl) (x9 : Int) (r : List Int × Bool) : ∀ (d : Nat) (fresh own : List Int) (x10 : Int), x10 = (own.length : Int) + d → d ≤ fresh.length → own.length + fresh.length ≤ 1000000000 →
    Ev (fun k => haversackref18_Follow.l0 k (fresh.drop d) ts (own ++ fresh.take d) (wrap64 (x9 + 1))) r → Ev (fun k => haversackref18_Follow.l1 k fresh ts own x9 x10) r
  | 0, fresh, own, x10, h, _, hb, hE => by
    simp only [List.drop_zero, List.take_zero, List.append_nil] at hE
    exact Ev.go (fun k => by rw [haversackref18_Follow.l1, if_neg (by omega)]) hE
  | d + 1, fresh, own, x10, h, hd, hb, hE => by
    cases fresh with
    | nil => simp at hd
    | cons a fresh =>
      simp only [List.length_cons] at hd hb
      have ih := rfol_l1 ts x9 r d fresh (own ++ [a]) x10 (by rw [List.length_append, List.length_singleton]; omega) (by omega) (by rw [List.length_append, List.length_singleton]; omega) (by
        simp only [List.drop_succ_cons, List.take_succ_cons] at hE
        rw [List.append_assoc]
        exact hE)
      refine Ev.go (fun k => ?_) ih
      rw [haversackref18_Follow.l1, if_pos (by omega), if_pos (by rw [List.length_cons]; omega), if_pos (by omega), if_pos (by rw [List.length_cons]; omega)]
      try rfl
theorem erase_cut (l : List Int) (n : Nat) : l.eraseIdx n = l.take n ++ l.drop (n + 1) := List.eraseIdx_eq_take_drop_succ ..
set_option maxHeartbeats 1000000 in
theorem rfol_l0 (ts : List Tl) (hts : ts.length ≤ 1000000000) (hq : ∀ t ∈ ts, -9223372036854775808 ≤ t.f1 ∧ t.f1 ≤ 9223372036854775807) : ∀ (n i : Nat) (own fresh : List Int), i + n = ts.length → own.length + fresh.length ≤ 1000000000 →
    Ev (fun k => haversackref18_Follow.l0 k fresh ts own i) (folL (ts.drop i) own fresh)
  | 0, i, own, fresh, h, hb => by
    rw [List.drop_of_length_le (by omega)]
    exact Ev.now (fun k => by rw [haversackref18_Follow.l0, if_neg (by omega)]; try rfl)
  | n + 1, i, own, fresh, h, hb => by
    have hqq := hq _ (rd_mem65 ts i (by omega))
    rw [folL_drop ts i (by omega)]
    obtain ⟨p, hp⟩ : ∃ p, p = rd_T65 ts i := ⟨_, rfl⟩
    rw [← hp] at hqq ⊢
    have ih := fun (own fresh : List Int) (hb : own.length + fresh.length ≤ 1000000000) => rfol_l0 ts hts hq n (i + 1) own fresh (by omega) hb
    have g1 : (i : Int) < (ts.length : Int) := by omega
    have g0 : (0 : Int) ≤ (i : Int) := by omega
    have hw := w64s (i := i) (by omega)
    -- the test 'in'
    obtain ⟨b, hb1⟩ : ∃ b : Bool, b = decide (1 ≤ p.f1 ∧ p.f1 ≤ (own.length : Int)) := ⟨_, rfl⟩
    have s0 : Ev (fun k => haversackref18_Follow.j1 k fresh ts own i p.f1 b) (folL (p :: ts.drop (i + 1)) own fresh) → Ev (fun k => haversackref18_Follow.l0 k fresh ts own i) (folL (p :: ts.drop (i + 1)) own fresh) := fun t => by
      by_cases h1 : p.f1 ≥ 1
      · refine Ev.go (fun k => ?_) t
        rw [haversackref18_Follow.l0, if_pos g1, if_pos g0, ← hp, if_pos h1, hb1]
        congr 1
        simp [show (1 : Int) ≤ p.f1 from h1]
      · refine Ev.go (fun k => ?_) t
        rw [haversackref18_Follow.l0, if_pos g1, if_pos g0, ← hp, if_neg h1, hb1]
        congr 1
        symm
        exact decide_eq_false (fun h => h1 h.1)
    refine s0 ?_
    -- then
    have jno : ∀ (v : List Int × Bool), (p.f0 = 1 → b = false) → Ev (fun k => haversackref18_Follow.j2 k fresh ts own i p.f1 b false) v → Ev (fun k => haversackref18_Follow.j1 k fresh ts own i p.f1 b) v := fun v hh t => by
      by_cases h1 : p.f0 = 1
      · refine Ev.go (fun k => ?_) t
        rw [haversackref18_Follow.j1, if_pos g0, if_pos g1, ← hp, if_pos h1, hh h1]
      · refine Ev.go (fun k => ?_) t
        rw [haversackref18_Follow.j1, if_pos g0, if_pos g1, ← hp, if_neg h1]
    by_cases c1 : p.f0 = 1 ∧ 1 ≤ p.f1 ∧ p.f1 ≤ (own.length : Int)
    · rw [folL, if_pos c1]
      have hbt : b = true := by rw [hb1]; exact decide_eq_true c1.2
      have hj : wrap64 (p.f1 - 1) = p.f1 - 1 := by unfold wrap64; omega
      have e1 : own.eraseIdx (p.f1 - 1).toNat = own.take (p.f1 - 1).toNat ++ own.drop p.f1.toNat := by
        rw [erase_cut, show (p.f1 - 1).toNat + 1 = p.f1.toNat by omega]
      refine Ev.go (f := fun k => haversackref18_Follow.j2 k fresh ts own i p.f1 b b) (fun k => by rw [haversackref18_Follow.j1, if_pos g0, if_pos g1, ← hp, if_pos c1.1]) ?_
      refine Ev.go (fun k => ?_) (ih (own.eraseIdx (p.f1 - 1).toNat) fresh (by have := List.length_eraseIdx_le own (p.f1 - 1).toNat; omega))
      rw [haversackref18_Follow.j2, if_pos hbt]
      simp only [Option.bind_some, List.nil_append, List.length_nil, hj]
      rw [if_pos (by omega), if_pos (by omega), if_pos (by rw [List.length_take]; omega), if_pos (by omega), if_pos (by omega), if_pos (by rw [List.length_take, List.length_drop]; omega), hw, e1]
    · rw [folL, if_neg c1]
      refine jno _ (fun h1 => by rw [hb1]; exact decide_eq_false (fun h => c1 ⟨h1, h⟩)) ?_
      have j2no : ∀ (v : List Int × Bool) (b3 : Bool), b3 = decide (p.f0 = 2 ∧ (own.length : Int) ≤ p.f1 ∧ p.f1 - (own.length : Int) ≤ (fresh.length : Int)) → Ev (fun k => haversackref18_Follow.j3 k fresh ts own i p.f1 b b3) v → Ev (fun k => haversackref18_Follow.j2 k fresh ts own i p.f1 b false) v := fun v b3 h3 t => by
        by_cases h1 : p.f0 = 2
        · by_cases h2 : p.f1 ≥ (own.length : Int)
          · refine Ev.go (fun k => ?_) t
            rw [haversackref18_Follow.j2, if_neg (by decide), if_pos g0, if_pos g1, ← hp, if_pos h1, if_pos h2, h3, show wrap64 (p.f1 - (own.length : Int)) = p.f1 - (own.length : Int) by unfold wrap64; omega]
            congr 1
            simp [h1, show (own.length : Int) ≤ p.f1 from h2]
          · refine Ev.go (fun k => ?_) t
            rw [haversackref18_Follow.j2, if_neg (by decide), if_pos g0, if_pos g1, ← hp, if_pos h1, if_neg h2, h3]
            congr 1
            symm
            exact decide_eq_false (fun h => h2 h.2.1)
        · refine Ev.go (fun k => ?_) t
          rw [haversackref18_Follow.j2, if_neg (by decide), if_pos g0, if_pos g1, ← hp, if_neg h1, h3]
          congr 1
          symm
          exact decide_eq_false (fun h => h1 h.1)
      refine j2no _ _ rfl ?_
      by_cases c2 : p.f0 = 2 ∧ (own.length : Int) ≤ p.f1 ∧ p.f1 - (own.length : Int) ≤ (fresh.length : Int)
      · rw [if_pos c2, decide_eq_true c2]
        obtain ⟨d, hd⟩ : ∃ d : Nat, p.f1 - (own.length : Int) = d := ⟨(p.f1 - (own.length : Int)).toNat, by omega⟩
        rw [hd, Int.toNat_natCast]
        refine Ev.go (f := fun k => haversackref18_Follow.l1 k fresh ts own i p.f1) (fun k => by rw [haversackref18_Follow.j3, if_pos rfl]) ?_
        refine rfol_l1 ts i _ d fresh own p.f1 (by omega) (by omega) hb ?_
        rw [hw]
        exact ih _ _ (by rw [List.length_append, List.length_take, List.length_drop]; omega)
      · rw [if_neg c2, decide_eq_false c2]
        by_cases c3 : p.f0 = 3 ∧ 1 ≤ p.f1 ∧ p.f1 ≤ (own.length : Int)
        · rw [if_pos c3]
          have hbt : b = true := by rw [hb1]; exact decide_eq_true c3.2
          refine Ev.go (fun k => ?_) (ih own fresh hb)
          rw [haversackref18_Follow.j3, if_neg (by decide), if_pos g0, if_pos g1, ← hp, if_pos c3.1, if_pos hbt, hw]
        · rw [if_neg c3]
          by_cases h3 : p.f0 = 3
          · have hbf : ¬ b = true := by
              rw [hb1]
              intro h
              exact c3 ⟨h3, of_decide_eq_true h⟩
            exact Ev.now (fun k => by rw [haversackref18_Follow.j3, if_neg (by decide), if_pos g0, if_pos g1, ← hp, if_pos h3, if_neg hbf])
          · exact Ev.now (fun k => by rw [haversackref18_Follow.j3, if_neg (by decide), if_pos g0, if_pos g1, ← hp, if_neg h3])
theorem rFollow_ev (uids fresh : List Int) (ts : List Tl) (hts : ts.length ≤ 1000000000) (hq : ∀ t ∈ ts, -9223372036854775808 ≤ t.f1 ∧ t.f1 ≤ 9223372036854775807) (hb : uids.length + fresh.length ≤ 1000000000) :
    Ev (fun k => haversackref18_Follow.f k uids fresh ts) (folL ts uids fresh) := by
  unfold haversackref18_Follow.f
  simp only [Option.bind_some, List.nil_append, List.length_nil]
  simp only [if_pos (show 0 + uids.length < 17592186044416 by omega)]
  have := rfol_l0 ts hts hq ts.length 0 uids fresh (by omega) hb
  rwa [List.drop_zero] at this
set_option maxHeartbeats 8000000 in
set_option maxRecDepth 100000 in
theorem haversacklaw18_ViewTells.holds (A0 : Option Addr) (c0 : Nat) (l0 : List Int) (A1 : Option Addr) (c1 : Nat) (l1 : List Int) (A2 : Option Addr) (c2 : Nat) (l2 : List Tl) (w : World) (hr0 : Kd.C (Kd.int .i64) w A0 l0.length l0) (hc0 : l0.length ≤ c0) (m0 : l0.length ≤ maxLen) (q0 : ∀ z ∈ l0, (Lit.int .i64 z).wf = true) (hr1 : Kd.C (Kd.int .i64) w A1 l1.length l1) (hc1 : l1.length ≤ c1) (m1 : l1.length ≤ maxLen) (q1 : ∀ z ∈ l1, (Lit.int .i64 z).wf = true) (hr2 : Kd.C k65 w A2 l2.length l2) (hc2 : l2.length ≤ c2) (m2 : l2.length ≤ maxLen) (q2 : ∀ z ∈ l2, Q65 z) :
    Calls Tryd.prog 7 #[.slice A0 l0.length c0, .slice A1 l1.length c1, .slice A2 l2.length c2] w fun e w' => e = .returned (.bool true) ∧ Below w.heap.size w w' := by
  have HR0 := Aside0.mk (And.intro hr0 hc0)
  have HR1 := Aside0.mk (And.intro hr1 hc1)
  have HR2 := Aside0.mk (And.intro hr2 hc2)
  have HQ := Aside0.mk q2
  clear hr0 hc0 m0 q0 hr1 hc1 m1 q1 hr2 hc2 m2 q2
  go_enter Tryd.func7, Tryd.ntmps7
  by_cases b0 : 60 < l0.length
  · have b0i : decide ((60 : Int) < (l0.length : Int)) = true := decide_eq_true (by omega)
    replace b0 := eq_true b0
    go_wp2_with fail
    refine (alive_ok _).mono ?_
    rintro e w1 ⟨rfl, hb⟩
    have HB := Aside0.mk hb
    clear hb
    go_wp2_with fail
    go_ret
    exact ⟨rfl, HB.out⟩
  by_cases b1 : 60 < l1.length
  · have b0i : decide ((60 : Int) < (l0.length : Int)) = false := decide_eq_false (by omega)
    have b1i : decide ((60 : Int) < (l1.length : Int)) = true := decide_eq_true (by omega)
    replace b0 := eq_false b0
    replace b1 := eq_true b1
    go_wp2_with fail
    refine (alive_ok _).mono ?_
    rintro e w1 ⟨rfl, hb⟩
    have HB := Aside0.mk hb
    clear hb
    go_wp2_with fail
    go_ret
    exact ⟨rfl, HB.out⟩
  by_cases b2 : 60 < l2.length
  · have b0i : decide ((60 : Int) < (l0.length : Int)) = false := decide_eq_false (by omega)
    have b1i : decide ((60 : Int) < (l1.length : Int)) = false := decide_eq_false (by omega)
    have b2i : decide ((60 : Int) < (l2.length : Int)) = true := decide_eq_true (by omega)
    replace b0 := eq_false b0
    replace b1 := eq_false b1
    replace b2 := eq_true b2
    go_wp2_with fail
    refine (alive_ok _).mono ?_
    rintro e w1 ⟨rfl, hb⟩
    have HB := Aside0.mk hb
    clear hb
    go_wp2_with fail
    go_ret
    exact ⟨rfl, HB.out⟩
  have b0i : decide ((60 : Int) < (l0.length : Int)) = false := decide_eq_false (by omega)
  have b1i : decide ((60 : Int) < (l1.length : Int)) = false := decide_eq_false (by omega)
  have b2i : decide ((60 : Int) < (l2.length : Int)) = false := decide_eq_false (by omega)
  have HL := Aside0.mk (show l0.length ≤ 60 ∧ l1.length ≤ 60 ∧ l2.length ≤ 60 by omega)
  replace b0 := eq_false b0
  replace b1 := eq_false b1
  replace b2 := eq_false b2
  have hqb : ∀ t ∈ l2, -9223372036854775808 ≤ t.f1 ∧ t.f1 ≤ 9223372036854775807 := fun t ht => bd64 (HQ.out t ht).2.1
  obtain ⟨k, hk⟩ := (rFollow_ev l0 l1 l2 (by have := HL.out; omega) hqb (by have := HL.out; omega)).at
  have hlen : (folL l2 l0 l1).1.length ≤ 1000000000 := by have := folL_len l2 l0 l1; have := HL.out; omega
  obtain ⟨r1, r2, hr⟩ : ∃ r1 r2, folL l2 l0 l1 = (r1, r2) := ⟨_, _, rfl⟩
  rw [hr] at hk hlen
  obtain ⟨k2, hk2⟩ := (Ints_ev r1 r1 hlen).at
  rw [decide_eq_true rfl] at hk2
  have HK := Aside0.mk hk
  have HK2 := Aside0.mk hk2
  have HR := Aside0.mk hr
  have HQB := Aside0.mk hqb
  clear hk hk2 hr hqb hlen
  go_wp2_with fail
  refine (viewFollow_ok A0 c0 l0 A1 c1 l1 A2 c2 l2 _ HR0.out.1 HR1.out.1 HR1.out.2 HR2.out.1 HQB.out (by have := HL.out; omega) (by have := HL.out; omega)).mono ?_
  rw [HR.out]
  rintro e w1 ⟨v1, rfl, ho1, hb1⟩
  obtain ⟨B1, d1, rfl⟩ := Kd.R_slice ho1
  have HO1 := Aside0.mk (Kd.R_reads' ho1)
  have HB1 := Aside0.mk hb1
  have HA0 := Aside0.mk (Kd.C_below HR0.out.1 hb1)
  have HA1 := Aside0.mk (Kd.C_below HR1.out.1 hb1)
  have HA2 := Aside0.mk (Kd.C_below HR2.out.1 hb1)
  clear ho1 hb1
  go_wp2_with fail
  refine (haversackref18_Follow.calls k A0 c0 l0 (fun k => k < w1.heap.size) A1 c1 l1 A2 c2 l2 r1 r2 w1 HA0.out HR0.out.2 (Kd.V_mk HR1.out.2 (Kd.C_F (Kd.heap_int .i64) HA1.out)) HA2.out HR2.out.2 HK.out).mono ?_
  rintro e w2 ⟨v2, rfl, ho2, hb2⟩
  obtain ⟨B2, d2, rfl⟩ := Kd.R_slice ho2
  have HO2 := Aside0.mk (Kd.R_reads' ho2)
  have HB2 := Aside0.mk (HB1.out.trans (hb2.mono HB1.out.size))
  have HO1' := Aside0.mk (Kd.C_below HO1.out.2.2 hb2)
  clear ho2 hb2 HA0 HA1 HA2
  go_wp2_with fail
  refine (haversackref18_Ints.calls k2 B1 d1 r1 B2 d2 r1 true w2 HO1'.out HO1.out.2.1 HO2.out.2.2 HO2.out.2.1 HK2.out).mono ?_
  rintro e w3 ⟨rfl, n3, rfl⟩
  have HB3 := Aside0.mk (pw_below_drewN HB2.out n3)
  generalize w2.drewN n3 = w3 at HB3 ⊢
  cases r2
  all_goals
    go_wp2_with fail
    refine (alive_ok _).mono ?_
    rintro e w4 ⟨rfl, hb4⟩
    have HB4 := Aside0.mk (HB3.out.trans (hb4.mono HB3.out.size))
    clear hb4
    go_wp2_with fail
    go_ret
    exact ⟨rfl, HB4.out⟩
end Go.Proofs.YtmpngedfnheilaaDoor.PP

namespace Go.Proofs.YtmpngedfnheilaaDoor.PP
open Go.RowKit Go.Proofs.YtmpngedfnheilaaDoorW.PrintWords Go.Proofs.YtmpngedfnheilaaDoorW.PrintLast Go.Proofs.YtmpngedfnheilaaDoorW.PrintMore
attribute [local go_sem] max2_int min2_int max_two min_two max_three min_three max_four min_four   -- for this text's walks alone
open Go.Proofs.YtmpngedfnheilaaDoor.My
set_option linter.unusedVariables false
set_option linter.unusedSimpArgs false
end Go.Proofs.YtmpngedfnheilaaDoor.PP
