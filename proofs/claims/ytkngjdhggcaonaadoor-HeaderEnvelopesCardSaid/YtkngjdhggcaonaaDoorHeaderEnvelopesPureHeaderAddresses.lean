/- YtkngjdhggcaonaaDoorPureHeaderAddresses, as far as HeaderEnvelopes needs it (prune.py). -/
import Derived.Test.YtkngjdhggcaonaaDoorHeaderEnvelopesPPx28
import Derived.Test.YtkngjdhggcaonaaDoorHeaderEnvelopesMyHeadS
namespace Go.Proofs.YtkngjdhggcaonaaDoor.Pure
open Go.RowKit Go.Proofs.YtkngjdhggcaonaaDoor.PP Go.Proofs.YtkngjdhggcaonaaDoor.My Go.Proofs.YtkngjdhggcaonaaDoorW.PrintWords Go.Proofs.YtkngjdhggcaonaaDoorW.PrintLast
set_option linter.unusedVariables false
set_option linter.unusedSimpArgs false
abbrev St := List UInt8 × List UInt8 × Nat
def stA (x : St) (m : Mk) : St := if m.2 = 2 ∨ m.2 = 3 then (x.1, x.2.1, x.2.2 + 1) else if m.2 = 0 ∧ x.2.2 = 0 then (x.1 ++ [m.1], x.2.1, x.2.2) else if m.2 = 0 ∧ x.2.2 = 1 then (x.1, x.2.1 ++ [m.1], x.2.2) else x
def foldA (l : List Mk) (x : St) : St := l.foldl stA x
def sayA (x : St) : List UInt8 := if x.2.2 = 0 then x.1 else x.2.1
def namA (x : St) : ByteArray := if x.2.2 = 0 then ⟨#[]⟩ else ⟨(takeL x.1).toArray⟩
def triA (x : St) : ByteArray × ByteArray × ByteArray := endF (sayA x) (namA x) (decide (x.2.2 ≠ 0))
theorem stA_len (x : St) (m : Mk) : (stA x m).1.length + (stA x m).2.1.length ≤ x.1.length + x.2.1.length + 1 ∧ (stA x m).2.2 ≤ x.2.2 + 1 := by
  unfold stA
  (repeat' split) <;> simp <;> omega
def ixA (s : List UInt8) (i : Nat) : Int := Lib.lastIdx (B s) 64 i
def boxA (s : List UInt8) (ix : Int) : ByteArray := if 0 ≤ ix then (B s).extract 0 ix.toNat else B s
def hostA (s : List UInt8) (ix : Int) : ByteArray := if 0 ≤ ix then (B s).extract (ix.toNat + 1) s.length else ⟨#[]⟩
theorem endF_eq (bs : List UInt8) (nm : ByteArray) (an : Bool) : endF bs nm an = (if an then nm else ⟨#[]⟩, boxA (takeL bs) (ixA (takeL bs) (takeL bs).length), hostA (takeL bs) (ixA (takeL bs) (takeL bs).length)) := rfl
theorem l1_ev (s : List UInt8) (hl : s.length ≤ 1000000000) (nm : ByteArray) : ∀ (n i : Nat), s.length - i ≤ n → i ≤ s.length →
    Ev (fun k => haversackref10_Address.l1 k (B s) (i : Int) nm (boxA s (ixA s i)) (hostA s (ixA s i))) (nm, boxA s (ixA s s.length), hostA s (ixA s s.length), isF (nm, boxA s (ixA s s.length), hostA s (ixA s s.length))) := by
  intro n
  induction n with
  | zero =>
    intro i h1 h2
    obtain rfl : i = s.length := by omega
    refine Ev.now (fun k => ?_)
    rw [haversackref10_Address.l1, if_neg (by rw [bS]; omega)]
    generalize boxA s (ixA s s.length) = b
    generalize hostA s (ixA s s.length) = h
    by_cases hn : nm.toList = []
    · rw [if_pos hn]
      by_cases hb : b.toList = []
      · rw [if_pos hb]
        have : isF (nm, b, h) = (h.toList != []) := by
          unfold isF
          simp only [hn, hb, List.isEmpty_nil, Bool.not_true, Bool.false_or]
          cases h.toList <;> rfl
        rw [this]
      · rw [if_neg hb]
        have : isF (nm, b, h) = true := by
          unfold isF
          simp [hb]
        rw [this]
    · rw [if_neg hn]
      have : isF (nm, b, h) = true := by
        unfold isF
        simp [hn]
      rw [this]
  | succ n ih =>
    intro i h1 h2
    by_cases hp : i < s.length
    · have g : (i : Int) < ((B s).size : Int) := by rw [bS]; omega
      have g0 : (0 : Int) ≤ (i : Int) := by omega
      have g2 : (0 : Int) ≤ ((i + 1 : Nat) : Int) := by omega
      have g3 : ((i + 1 : Nat) : Int) ≤ ((B s).size : Int) := by rw [bS]; omega
      have next := ih (i + 1) (by omega) (by omega)
      have hb := btn s i hp
      have hd : ((B s).data[i]!) = s[i] := by
        rw [getElem!_pos (B s).data i (by simpa using hp)]
        rfl
      have hix : ixA s (i + 1) = if ((s[i]).toNat : Int) = 64 then (i : Int) else ixA s i := by
        unfold ixA
        rw [Lib.lastIdx, hd]
      have w1 : Wr ((i : Int) + 1) ((i + 1 : Nat) : Int) := ⟨w64 (x := (i : Int) + 1) (by omega)⟩
      by_cases h64 : ((s[i]).toNat : Int) = 64
      · rw [if_pos h64] at hix
        rw [hix] at next
        have eb : boxA s (i : Int) = (B s).extract 0 i := by unfold boxA; rw [if_pos g0, Int.toNat_natCast]
        have eh : hostA s (i : Int) = (B s).extract (i + 1) (B s).size := by unfold hostA; rw [if_pos g0, Int.toNat_natCast]; rfl
        rw [eb, eh] at next
        exact Ev.go (fun k => by rw [haversackref10_Address.l1, if_pos g, if_pos g0, hb, if_pos h64, if_pos (Int.le_of_lt g), w1.e, if_pos g2, if_pos g3, Int.toNat_natCast, Int.toNat_natCast]) next
      · rw [if_neg h64] at hix
        rw [hix] at next
        exact Ev.go (fun k => by rw [haversackref10_Address.l1, if_pos g, if_pos g0, hb, if_neg h64, w1.e]) next
    · obtain rfl : i = s.length := by omega
      exact ih s.length (by omega) (Nat.le_refl _)
theorem num1 (c : UInt8) : strOfNums [(c.toNat : Int)] = B [c] := by
  unfold strOfNums
  simp
theorem adr1_ev (L : List Mk) (hL : L.length ≤ 1000000000) : ∀ (ms a : List Mk) (x : St), a ++ ms = L → x.1.length + x.2.1.length ≤ a.length → x.2.2 ≤ a.length →
    Ev (fun k => haversackref10_Address.l0 k (mB L) (B x.1) (B x.2.1) (x.2.2 : Int) (a.length : Int) (⟨#[]⟩ : ByteArray) (⟨#[]⟩ : ByteArray) (⟨#[]⟩ : ByteArray)) ((triA (foldA ms x)).1, (triA (foldA ms x)).2.1, (triA (foldA ms x)).2.2, isF (triA (foldA ms x)))
  | [], a, x, ha, hx, hg => by
    have h1 : a = L := by simpa using ha
    subst h1
    obtain ⟨ah, inn, g⟩ := x
    simp only at hx hg ⊢
    have gg : ¬ ((a.length : Nat) : Int) < ((mB a).length : Int) := by rw [List.length_map]; omega
    refine Ev.go (f := fun k => ((haversackref10_Trim.f k (B ah) true).bind fun t286 => (if (g : Int) > 0 then ((haversackref10_Trim.f k (B inn) true).bind fun t287 => (haversackref10_Address.j3 k t287 t286 (⟨#[]⟩ : ByteArray) (⟨#[]⟩ : ByteArray))) else (haversackref10_Address.j3 k t286 (⟨#[]⟩ : ByteArray) (⟨#[]⟩ : ByteArray) (⟨#[]⟩ : ByteArray))))) (fun k => by rw [haversackref10_Address.l0, if_neg gg]) ?_
    refine Ev.bd (trim_ev true ah (by omega)) ?_
    have fin : ∀ (s : List UInt8) (nm : ByteArray), s.length ≤ 1000000000 → Ev (fun k => haversackref10_Address.j3 k (B s) nm (⟨#[]⟩ : ByteArray) (⟨#[]⟩ : ByteArray)) (nm, boxA s (ixA s s.length), hostA s (ixA s s.length), isF (nm, boxA s (ixA s s.length), hostA s (ixA s s.length))) := by
      intro s nm hs
      refine Ev.go (fun k => by rw [haversackref10_Address.j3]) ?_
      exact l1_ev s hs nm s.length 0 (by omega) (by omega)
    have la := trimE_len true ah
    have li := trimE_len true inn
    show Ev _ ((triA (ah, inn, g)).1, (triA (ah, inn, g)).2.1, (triA (ah, inn, g)).2.2, isF (triA (ah, inn, g)))
    unfold triA sayA namA
    rw [endF_eq]
    simp only
    by_cases h0 : g = 0
    · subst h0
      simp only [if_neg (show ¬ ((0 : Nat) : Int) > 0 by decide), if_true, takeL_trim]
      exact fin _ _ (by omega)
    · simp only [if_pos (show (g : Int) > 0 by omega), if_neg h0, takeL_trim, decide_eq_true h0, ne_eq, h0, not_false_eq_true, decide_true, if_true]
      refine Ev.bd (trim_ev true inn (by omega)) ?_
      exact fin _ _ (by omega)
  | m :: ms, a, x, ha, hx, hg => by
    obtain ⟨c, t⟩ := m
    have hLl : L.length = a.length + ms.length + 1 := by rw [← ha]; simp; omega
    have g1 : ((a.length : Nat) : Int) < ((mB L).length : Int) := by rw [List.length_map]; omega
    have g0 : (0 : Int) ≤ ((a.length : Nat) : Int) := by omega
    have hrd : rd_T74 (mB L) ((a.length : Nat) : Int) = ⟨(c.toNat : Int), (t : Int)⟩ := by
      unfold rd_T74
      rw [Int.toNat_natCast, ← ha]
      simp [List.getD_eq_getElem?_getD]
    have hst := stA_len x (c, t)
    have next := adr1_ev L hL ms (a ++ [(c, t)]) (stA x (c, t)) (by rw [← ha]; simp) (by rw [List.length_append]; simp only [List.length_cons, List.length_nil]; omega) (by rw [List.length_append]; simp only [List.length_cons, List.length_nil]; omega)
    have hfold : foldA ((c, t) :: ms) x = foldA ms (stA x (c, t)) := rfl
    rw [hfold]
    obtain ⟨ah, inn, g⟩ := x
    simp only at hx hg ⊢
    have gs1 : (B ah).size + (B [c]).size ≤ 9223372036854775807 := by rw [bS, bS]; simp only [List.length_cons, List.length_nil]; omega
    have gs2 : (B inn).size + (B [c]).size ≤ 9223372036854775807 := by rw [bS, bS]; simp only [List.length_cons, List.length_nil]; omega
    have tt : ∀ n : Nat, ((t : Int) = (n : Int)) = (t = n) := fun n => by rw [eq_iff_iff]; omega
    have tg : ∀ n : Nat, ((g : Int) = (n : Int)) = (g = n) := fun n => by rw [eq_iff_iff]; omega
    have w1 : Wr ((a.length : Int) + 1) (((a ++ [(c, t)]).length : Nat) : Int) := ⟨by
      rw [w64 (x := (a.length : Int) + 1) (by omega), List.length_append]; simp⟩
    have w2 : Wr ((g : Int) + 1) ((g + 1 : Nat) : Int) := ⟨w64 (x := (g : Int) + 1) (by omega)⟩
    have J0 : ∀ k, haversackref10_Address.l0 (k + 1) (mB L) (B ah) (B inn) (g : Int) (a.length : Int) (⟨#[]⟩ : ByteArray) (⟨#[]⟩ : ByteArray) (⟨#[]⟩ : ByteArray) = haversackref10_Address.j1 k (mB L) (B ah) (B inn) (g : Int) (a.length : Int) (decide (t = 2 ∨ t = 3)) (⟨#[]⟩ : ByteArray) (⟨#[]⟩ : ByteArray) (⟨#[]⟩ : ByteArray) := by
      intro k
      rw [haversackref10_Address.l0, if_pos g1, if_pos g0, hrd]
      by_cases h2 : t = 2
      · rw [if_pos (show ((t : Nat) : Int) = 2 by omega), decide_eq_true (Or.inl h2)]
      · rw [if_neg (show ¬ ((t : Nat) : Int) = 2 by omega)]
        congr 1
        rw [Bool.eq_iff_iff]
        simp only [beq_iff_eq, decide_eq_true_eq]
        omega
    refine Ev.go J0 ?_
    by_cases h23 : t = 2 ∨ t = 3
    · have hs : stA (ah, inn, g) (c, t) = (ah, inn, g + 1) := by unfold stA; rw [if_pos h23]
      rw [hs] at next
      rw [decide_eq_true h23, hs]
      exact Ev.go (fun k => by rw [haversackref10_Address.j1, if_pos rfl, w2.e, w1.e]) next
    · rw [decide_eq_false h23]
      have J1 : ∀ k, haversackref10_Address.j1 (k + 1) (mB L) (B ah) (B inn) (g : Int) (a.length : Int) false (⟨#[]⟩ : ByteArray) (⟨#[]⟩ : ByteArray) (⟨#[]⟩ : ByteArray) = haversackref10_Address.j2 k (mB L) (B ah) (B inn) (g : Int) (a.length : Int) (decide (t = 0 ∧ g = 0)) (⟨#[]⟩ : ByteArray) (⟨#[]⟩ : ByteArray) (⟨#[]⟩ : ByteArray) := by
        intro k
        rw [haversackref10_Address.j1, if_neg (by decide), if_pos g0, if_pos g1, hrd]
        by_cases h0 : t = 0
        · rw [if_pos (show ((t : Nat) : Int) = 0 by omega)]
          congr 1
          rw [Bool.eq_iff_iff]
          simp only [beq_iff_eq, decide_eq_true_eq]
          omega
        · rw [if_neg (show ¬ ((t : Nat) : Int) = 0 by omega)]
          congr 1
          simp [h0]
      refine Ev.go J1 ?_
      by_cases h00 : t = 0 ∧ g = 0
      · have hs : stA (ah, inn, g) (c, t) = (ah ++ [c], inn, g) := by unfold stA; rw [if_neg h23, if_pos h00]
        rw [hs] at next
        rw [decide_eq_true h00, hs]
        refine Ev.go (fun k => by rw [haversackref10_Address.j2, if_pos rfl, if_pos g0, if_pos g1, hrd, Option.bind_some, num1, if_pos gs1, bB_app, w1.e]) next
      · rw [decide_eq_false h00]
        by_cases h01 : t = 0 ∧ g = 1
        · have hs : stA (ah, inn, g) (c, t) = (ah, inn ++ [c], g) := by unfold stA; rw [if_neg h23, if_neg h00, if_pos h01]
          rw [hs] at next
          rw [hs]
          refine Ev.go (fun k => by rw [haversackref10_Address.j2, if_neg (by decide), if_pos g0, if_pos g1, hrd, if_pos (show ((t : Nat) : Int) = 0 by omega), if_pos (show ((g : Nat) : Int) = 1 by omega), Option.bind_some, num1, if_pos gs2, bB_app, w1.e]) next
        · have hs : stA (ah, inn, g) (c, t) = (ah, inn, g) := by unfold stA; rw [if_neg h23, if_neg h00, if_neg h01]
          rw [hs] at next
          rw [hs]
          by_cases h0 : t = 0
          · refine Ev.go (fun k => by rw [haversackref10_Address.j2, if_neg (by decide), if_pos g0, if_pos g1, hrd, if_pos (show ((t : Nat) : Int) = 0 by omega), if_neg (show ¬ ((g : Nat) : Int) = 1 by omega), w1.e]) next
          · refine Ev.go (fun k => by rw [haversackref10_Address.j2, if_neg (by decide), if_pos g0, if_pos g1, hrd, if_neg (show ¬ ((t : Nat) : Int) = 0 by omega), w1.e]) next
theorem Address_ev (L : List Mk) (hL : L.length ≤ 1000000000) : Ev (fun k => haversackref10_Address.f k (mB L)) ((triA (foldA L ([], [], 0))).1, (triA (foldA L ([], [], 0))).2.1, (triA (foldA L ([], [], 0))).2.2, isF (triA (foldA L ([], [], 0)))) :=
  adr1_ev L hL L [] ([], [], 0) rfl (by simp) (by simp)
theorem adS_fold : ∀ (ms cur : List Mk) (out : List Adr), adS ms (foldA cur ([], [], 0)).1 (foldA cur ([], [], 0)).2.1 (foldA cur ([], [], 0)).2.2 out = match ms with
    | [] => finF out (triA (foldA cur ([], [], 0)))
    | m :: ms => if m.2 = 4 then adS ms [] [] 0 (finF out (triA (foldA cur ([], [], 0)))) else adS ms (foldA (cur ++ [m]) ([], [], 0)).1 (foldA (cur ++ [m]) ([], [], 0)).2.1 (foldA (cur ++ [m]) ([], [], 0)).2.2 out
  | [], cur, out => rfl
  | m :: ms, cur, out => by
    have hf : foldA (cur ++ [m]) ([], [], 0) = stA (foldA cur ([], [], 0)) m := by unfold foldA; rw [List.foldl_append]; rfl
    have h4 : finA (foldA cur ([], [], 0)).1 (foldA cur ([], [], 0)).2.1 (foldA cur ([], [], 0)).2.2 out = finF out (triA (foldA cur ([], [], 0))) := rfl
    show _ = (if m.2 = 4 then adS ms [] [] 0 (finF out (triA (foldA cur ([], [], 0)))) else adS ms (foldA (cur ++ [m]) ([], [], 0)).1 (foldA (cur ++ [m]) ([], [], 0)).2.1 (foldA (cur ++ [m]) ([], [], 0)).2.2 out)
    rw [hf, adS, h4]
    generalize foldA cur ([], [], 0) = x
    unfold stA
    by_cases e4 : m.2 = 4
    · rw [if_pos e4, if_pos e4]
    · rw [if_neg e4, if_neg e4]
      (repeat' split) <;> rfl
theorem finF_le (out : List Adr) (f : ByteArray × ByteArray × ByteArray) : (finF out f).length ≤ out.length + 1 := by
  unfold finF
  split <;> simp
theorem adrs_l0 (M : List Mk) (hM : M.length ≤ 900000000) : ∀ (ms a cur : List Mk) (out : List Adr), a ++ cur ++ ms = M → out.length ≤ a.length →
    Ev (fun k => haversackref10_Addresses.l0 k (mB (M ++ [(44, 4)])) out (a.length : Int) ((a.length + cur.length : Nat) : Int)) (adS ms (foldA cur ([], [], 0)).1 (foldA cur ([], [], 0)).2.1 (foldA cur ([], [], 0)).2.2 out) := by
  intro ms
  have push : ∀ (out : List Adr) (x : St), (if isF (triA x) = true then out ++ [(⟨(triA x).1, (triA x).2.1, (triA x).2.2⟩ : Adr)] else out) = finF out (triA x) := fun out x => rfl
  have step4 : ∀ (a cur rest : List Mk) (out : List Adr) (c : UInt8) (R : List Adr), a ++ cur ++ (c, 4) :: rest = M ++ [(44, 4)] → out.length ≤ a.length →
      Ev (fun k => haversackref10_Addresses.l0 k (mB (M ++ [(44, 4)])) (finF out (triA (foldA cur ([], [], 0)))) (((a ++ cur ++ [(c, 4)]).length : Nat) : Int) (((a ++ cur ++ [(c, 4)]).length : Nat) : Int)) R →
      Ev (fun k => haversackref10_Addresses.l0 k (mB (M ++ [(44, 4)])) out (a.length : Int) ((a.length + cur.length : Nat) : Int)) R := by
    intro a cur rest out c R ha ho hR
    have hlen : a.length + cur.length + rest.length + 1 = M.length + 1 := by
      have := congrArg List.length ha
      simp only [List.length_append, List.length_cons, List.length_nil] at this
      omega
    have g1 : ((a.length + cur.length : Nat) : Int) < ((mB (M ++ [(44, 4)])).length : Int) := by rw [List.length_map, List.length_append]; simp only [List.length_cons, List.length_nil]; omega
    have g0 : (0 : Int) ≤ ((a.length + cur.length : Nat) : Int) := by omega
    have g2 : (0 : Int) ≤ (a.length : Int) := by omega
    have g3 : (a.length : Int) ≤ ((a.length + cur.length : Nat) : Int) := by omega
    have hrd : rd_T74 (mB (M ++ [(44, 4)])) ((a.length + cur.length : Nat) : Int) = ⟨(c.toNat : Int), ((4 : Nat) : Int)⟩ := by
      unfold rd_T74
      rw [Int.toNat_natCast, ← ha]
      simp [List.getD_eq_getElem?_getD]
    have hx : ((mB (M ++ [(44, 4)])).take (a.length + cur.length)).drop a.length = mB cur := by
      rw [← ha]
      unfold mB
      rw [← List.map_take, ← List.map_drop, List.take_left' (by simp), List.drop_left' rfl]
    have gl : out.length < 2932031007402 := by omega
    have hcl : cur.length ≤ 1000000000 := by omega
    have w1 : Wr (((a.length + cur.length : Nat) : Int) + 1) (((a ++ cur ++ [(c, 4)]).length : Nat) : Int) := ⟨by
      rw [w64 (x := ((a.length + cur.length : Nat) : Int) + 1) (by omega)]; simp only [List.length_append, List.length_cons, List.length_nil]; omega⟩
    refine Ev.go (fun k => by rw [haversackref10_Addresses.l0, if_pos g1, if_pos g0, hrd, if_pos (show ((4 : Nat) : Int) = 4 from rfl), if_pos g2, if_pos g3, if_pos (Int.le_of_lt g1), Int.toNat_natCast, Int.toNat_natCast, hx]) ?_
    refine Ev.bd (Address_ev cur hcl) ?_
    simp only [if_pos gl, w1.e]
    rw [← push] at hR
    by_cases hi : isF (triA (foldA cur ([], [], 0))) = true
    · simp only [if_pos hi] at hR ⊢
      exact hR
    · simp only [if_neg hi] at hR ⊢
      exact hR
  induction ms with
  | nil =>
    intro a cur out ha ho
    have ha' : a ++ cur ++ (44, 4) :: [] = M ++ [(44, 4)] := by rw [← ha]; simp
    refine step4 a cur [] out 44 _ ha' ho ?_
    have hz : ¬ (((a ++ cur ++ [((44, 4) : Mk)]).length : Nat) : Int) < ((mB (M ++ [(44, 4)])).length : Int) := by
      rw [List.length_map, ← ha']; simp
    rw [adS_fold]
    exact Ev.now (fun k => by rw [haversackref10_Addresses.l0, if_neg hz])
  | cons m ms ih =>
    intro a cur out ha ho
    obtain ⟨c, t⟩ := m
    have ha' : a ++ cur ++ (c, t) :: (ms ++ [(44, 4)]) = M ++ [(44, 4)] := by rw [← ha]; simp
    rw [adS_fold]
    simp only
    by_cases h4 : t = 4
    · subst h4
      rw [if_pos rfl]
      refine step4 a cur (ms ++ [(44, 4)]) out c _ ha' ho ?_
      have := ih (a ++ cur ++ [(c, 4)]) [] (finF out (triA (foldA cur ([], [], 0)))) (by rw [← ha]; simp) (Nat.le_trans (finF_le _ _) (by simp only [List.length_append, List.length_cons, List.length_nil]; omega))
      exact this
    · rw [if_neg h4]
      have hlen : a.length + cur.length + ms.length + 1 = M.length := by
        have := congrArg List.length ha
        simp only [List.length_append, List.length_cons, List.length_nil] at this
        omega
      have g1 : ((a.length + cur.length : Nat) : Int) < ((mB (M ++ [(44, 4)])).length : Int) := by rw [List.length_map, List.length_append]; simp only [List.length_cons, List.length_nil]; omega
      have g0 : (0 : Int) ≤ ((a.length + cur.length : Nat) : Int) := by omega
      have hrd : rd_T74 (mB (M ++ [(44, 4)])) ((a.length + cur.length : Nat) : Int) = ⟨(c.toNat : Int), (t : Int)⟩ := by
        unfold rd_T74
        rw [Int.toNat_natCast, ← ha']
        simp [List.getD_eq_getElem?_getD]
      have hn4 : ¬ (t : Int) = 4 := by omega
      have next := ih a (cur ++ [(c, t)]) out (by rw [← ha]; simp) ho
      have w1 : Wr (((a.length + cur.length : Nat) : Int) + 1) ((a.length + (cur ++ [(c, t)]).length : Nat) : Int) := ⟨by
        rw [w64 (x := ((a.length + cur.length : Nat) : Int) + 1) (by omega), List.length_append]; simp; omega⟩
      exact Ev.go (fun k => by rw [haversackref10_Addresses.l0, if_pos g1, if_pos g0, hrd, if_neg hn4, w1.e]) next
theorem mkL_len : ∀ (n : Nat) (s : List UInt8) (q a : Bool) (d : Nat), s.length ≤ n → (mkL s q a d).length ≤ 2 * s.length := by
  intro n
  induction n with
  | zero =>
    intro s q a d h
    obtain rfl : s = [] := List.length_eq_zero_iff.1 (by omega)
    simp [mk_nil]
  | succ n ih =>
    intro s q a d h
    cases s with
    | nil => simp [mk_nil]
    | cons c r =>
      simp only [List.length_cons] at h
      have h1 := fun q a d => ih r q a d (by omega)
      have h2 := fun q a d => ih r.tail q a d (by simp; omega)
      have h3 : r.tail.length ≤ r.length := by simp
      rw [mkL]
      simp only [List.length_cons]
      (repeat' split) <;> simp only [List.length_cons] <;> first | (have := h2 q a d; omega) | (have := h1 q a (d + 1); omega) | (have := h1 q a (d - 1); omega) | (have := h1 q a d; omega) | (have := h1 (!q) a d; omega) | (have := h1 q a 1; omega) | (have := h1 q true d; omega) | (have := h1 q false d; omega)
theorem Addresses_ev (s : List UInt8) (hl : s.length ≤ 100000000) : Ev (fun k => haversackref10_Addresses.f k (B s)) (adrs s) := by
  have hm := mkL_len s.length s false false 0 (Nat.le_refl _)
  refine Ev.bd (marks_f_ev s (by omega)) ?_
  have gl : (mB (mkL s false false 0)).length < 8796093022208 := by rw [List.length_map]; omega
  simp only [if_pos gl]
  rw [adrs_marks]
  have e : mB (mkL s false false 0) ++ [(⟨44, 4⟩ : S74)] = mB (mkL s false false 0 ++ [(44, 4)]) := by simp [mB]
  rw [e]
  exact adrs_l0 (mkL s false false 0) (by omega) (mkL s false false 0) [] [] [] (by simp) (by simp)
theorem peop_ev (l : List Adr) (hl : l.length ≤ 1000000000) : Ev (fun k => haversackref10_People.f k l l) true := by
  have key : ∀ (n i : Nat), l.length - i ≤ n → i ≤ l.length → Ev (fun k => haversackref10_People.l0 k l l (i : Int)) true := by
    intro n
    induction n with
    | zero =>
      intro i h1 h2
      have g : ¬ (i : Int) < (l.length : Int) := by omega
      exact Ev.now (fun k => by rw [haversackref10_People.l0, if_neg g])
    | succ n ih =>
      intro i h1 h2
      by_cases hp : i < l.length
      · have g : (i : Int) < (l.length : Int) := by omega
        have g0 : (0 : Int) ≤ (i : Int) := by omega
        have h3 := ih (i + 1) (by omega) (by omega)
        have w1 : wrap64 ((i : Int) + 1) = ((i + 1 : Nat) : Int) := w64 (x := (i : Int) + 1) (by omega)
        refine Ev.go (fun k => by rw [haversackref10_People.l0, if_pos g, if_pos g0, if_pos g, w1]) ?_
        simpa using h3
      · have g : ¬ (i : Int) < (l.length : Int) := by omega
        exact Ev.now (fun k => by rw [haversackref10_People.l0, if_neg g])
  refine Ev.same (fun k => ?_) (key l.length 0 (by omega) (by omega))
  rw [haversackref10_People.f, if_pos rfl]
  rfl
theorem adS_len : ∀ (ms : List Mk) (ah inn : List UInt8) (g : Nat) (out : List Adr), (adS ms ah inn g out).length ≤ out.length + ms.length + 1
  | [], ah, inn, g, out => finF_le _ _
  | m :: ms, ah, inn, g, out => by
    rw [adS]
    have h1 := finF_le out (endF (if g = 0 then ah else inn) (if g = 0 then ⟨#[]⟩ else ⟨(takeL ah).toArray⟩) (decide (g ≠ 0)))
    simp only [List.length_cons]
    split
    · have := adS_len ms [] [] 0 (finA ah inn g out)
      unfold finA at this ⊢
      omega
    · (repeat' split) <;> refine Nat.le_trans (adS_len ms _ _ _ _) (by omega)
end Go.Proofs.YtkngjdhggcaonaaDoor.Pure
