/-
  NamesEncodes.
-/
import Derived.Test.YtnkibbfpmhgeaaaDoorPPx13
import Derived.Test.YtnkibbfpmhgeaaaDoorMyNamesE
namespace Go.Proofs.YtnkibbfpmhgeaaaDoor.Pure
open Go.RowKit Go.Proofs.YtnkibbfpmhgeaaaDoor.PP Go.Proofs.YtnkibbfpmhgeaaaDoor.My Go.Proofs.YtnkibbfpmhgeaaaDoorW.PrintWords Go.Proofs.YtnkibbfpmhgeaaaDoorW.PrintLast
set_option linter.unusedVariables false
set_option linter.unusedSimpArgs false
def fin (l : List UInt8) : Option ByteArray → ByteArray × Int
  | none => (B [], 11)
  | some o => if Lib.validD o.data.toList = true ∧ encB o.data.toList = l then (o, 0) else (B [], 11)
theorem btoList (b : ByteArray) : b.toList = b.data.toList := ByteArray.toList_eq b
theorem dec_end (l : List UInt8) (out : ByteArray) (hs : out.size ≤ 100000) (x : Int) (hx : (l.length : Int) ≤ x) : Ev (fun k => haversackref07_Decode.l0 k (B l) out x) (fin l (some out)) := by
  apply Ev.go
  · intro k; rw [haversackref07_Decode.l0, ba_size, if_neg (by omega)]
  · have he := renc_f out.data.toList (by rw [bsz]; omega)
    rw [← (show out = B out.data.toList from ba_list out)] at he
    refine Ev.bd he ?_
    unfold fin
    by_cases hv : Lib.validD out.data.toList = true
    · simp only [hv, if_true, ba_toList, true_and]
      by_cases h : encB out.data.toList = l
      · simp only [if_pos h]; exact Ev.ret _
      · simp only [if_neg h]; exact Ev.ret _
    · simp only [hv, if_neg (show ¬ (11 : Int) = 0 by decide)]
      exact Ev.ret _
theorem size_app1 (o : ByteArray) (l : List UInt8) : (o ++ B l).size = o.size + l.length := by
  rw [ByteArray.size_append]
  rfl
theorem st1 (n : Nat) (h : n < 16) : wrap64 ((n : Int) + 6) = ((n + 6 : Nat) : Int) := by rw [w64 (by omega)]; omega
theorem st2 (x v : Nat) (hx : x < 4194304) (hv : v < 64) : wrap64 (Int.tmod (wrap64 ((x : Int) * 64)) 4194304 + (v : Int)) = ((x * 64 % 4194304 + v : Nat) : Int) ∧ x * 64 % 4194304 + v < 4194304 := by
  rw [w64 (x := (x : Int) * 64) (by omega), Int.tmod_eq_emod_of_nonneg (by omega), w64 (by omega)]
  omega
theorem st3 (n : Nat) (h : n < 16) (h2 : 16 ≤ n + 6) : wrap64 (((n + 6 : Nat) : Int) - 16) = ((n + 6 - 16 : Nat) : Int) := by rw [w64 (by omega)]; omega
theorem st4 (y m : Nat) (h : m ≤ 64) : Int.tmod (shr .i64 (y : Int) (m : Int)) 65536 = ((y / 2 ^ m % 65536 : Nat) : Int) := by
  rw [shrN _ _ h]
  generalize y / 2 ^ m = z
  rw [Int.tmod_eq_emod_of_nonneg (by omega)]; omega
theorem idx_lt (c : UInt8) : Lib.indexByte L64 c < 64 := by
  by_cases h : Lib.indexByte L64 c < 0
  · omega
  · have := index_lt h
    have h2 : L64.length = 64 := by decide
    omega
set_option maxHeartbeats 1000000 in
theorem dec_walk (l : List UInt8) (hl : l.length ≤ 5000) : ∀ d pos : Nat, pos ≤ l.length → l.length - pos ≤ d →
    (∀ out : ByteArray, out.size ≤ 10 * pos → Ev (fun k => haversackref07_Decode.l0 k (B l) out (pos : Int)) (fin l (rdF none out (l.drop pos)))) ∧
    (∀ (out : ByteArray) (i x n : Nat) (us : List Nat) (first : Bool), i < pos → first = decide (pos = i + 1) → x < 4194304 → n < 16 → us.length + i ≤ pos → (∀ u, u ∈ us → u < 65536) → out.size ≤ 10 * i →
      Ev (fun k => haversackref07_Decode.l1 k (B l) out (i : Int) (x : Int) (n : Int) (I us) (pos : Int)) (fin l (rdF (some (x, n, us, first)) out (l.drop pos)))) := by
  intro d
  induction d with
  | zero =>
    intro pos hp hd
    have hd0 : l.drop pos = [] := List.drop_eq_nil_iff.2 (by omega)
    rw [hd0]
    constructor
    · intro out ho
      rw [rdF]
      exact dec_end l out (by omega) _ (by omega)
    · intro out i x n us first hi hf hx hn hu hus ho
      rw [rdF]
      have h2 : Ev (fun k => haversackref07_Decode.j2 k (B l) out (i : Int) (x : Int) (n : Int) (I us) (pos : Int) false) (fin l none) := by
        refine Ev.now fun k => ?_
        rw [haversackref07_Decode.j2, if_neg (by decide), ba_size, if_pos (by omega)]
        rfl
      refine Ev.go (fun k => ?_) h2
      rw [haversackref07_Decode.l1, ba_size, if_neg (by omega)]
  | succ d ih =>
    intro pos hp hd
    by_cases hil : pos < l.length
    · obtain ⟨n0, n1⟩ := ih (pos + 1) (by omega) (by omega)
      clear ih
      have hbt : bt (B l) (pos : Int) = (l[pos].toNat : Int) := by rw [btn, getD_at l pos hil]
      have hw : wrap64 ((pos : Int) + 1) = ((pos + 1 : Nat) : Int) := by rw [w64 (by omega)]; omega
      have hex : (B l).extract pos (pos + 1) = B [l[pos]] := by
        rw [ba_cut, Nat.add_sub_cancel_left, List.drop_eq_getElem_cons hil, List.take_succ_cons, List.take_zero]
      rw [List.drop_eq_getElem_cons hil]
      have h38 : ((l[pos].toNat : Int) = 38) = (l[pos] = 38) := u8i _ 38
      have h45 : ((l[pos].toNat : Int) != 45) = (l[pos] != 45) := by
        rw [Bool.eq_iff_iff, bne_iff_ne, bne_iff_ne, ne_eq, ne_eq]
        exact not_congr (Eq.to_iff (u8i l[pos] 45))
      generalize l[pos] = c at *
      constructor
      · intro out ho
        rw [rdF]
        by_cases e : c = 38
        · rw [if_pos e]
          have := n1 out pos 0 0 [] true (by omega) (by simp) (by omega) (by omega) (by simp) (fun u hu => by cases hu) ho
          refine Ev.go (fun k => ?_) this
          clear this n0 n1
          rw [haversackref07_Decode.l0, ba_size, if_pos (by omega), if_pos (by omega), hbt, if_pos (h38.mpr e), hw]
          rfl
        · rw [if_neg e]
          refine Ev.go (fun k => ?_) (n0 (out ++ B [c]) (by rw [size_app1]; simp; omega))
          clear n0 n1
          rw [haversackref07_Decode.l0, ba_size, if_pos (by omega), if_pos (by omega), hbt, if_neg (fun x => e (h38.mp x)), hw, if_pos (by omega), if_pos (by omega), if_pos (by omega), Int.toNat_natCast, Int.toNat_natCast, hex]
      · intro out i x n us first hi hf hx hn hu hus ho
        have hj : Ev (fun k => haversackref07_Decode.j2 k (B l) out (i : Int) (x : Int) (n : Int) (I us) (pos : Int) (c != 45)) (fin l (rdF (some (x, n, us, first)) out (c :: l.drop (pos + 1)))) := by
          rw [rdF]
          by_cases e : c = 45
          · rw [if_pos e]
            have eb : (c != 45) = false := by rw [e]; rfl
            rw [eb]
            by_cases ef : pos = i + 1
            · rw [hf, decide_eq_true ef, if_pos rfl]
              refine Ev.go (fun k => ?_) (n0 (out ++ B [38]) (by rw [size_app1]; simp; omega))
              clear n0 n1
              rw [haversackref07_Decode.j2, if_neg (by decide), ba_size, if_neg (by omega), if_pos (by rw [w64 (by omega)]; omega), if_pos (by omega), hw]
            · rw [hf, decide_eq_false ef, if_neg (by decide)]
              have hsz := rlet_size us.length us (Nat.le_refl _)
              apply Ev.go
              · intro k
                rw [haversackref07_Decode.j2, if_neg (by decide), ba_size, if_neg (by omega), if_neg (by rw [w64 (by omega)]; omega), hw]
              · refine Ev.bd (letters_f us (by omega) hus) ?_
                simp only [if_pos (show out.size + (rletB us).size ≤ 9223372036854775807 by omega)]
                exact n0 (out ++ rletB us) (by rw [ByteArray.size_append]; omega)
          · rw [if_neg e]
            have eb : (c != 45) = true := by rw [bne_iff_ne]; exact e
            rw [eb]
            apply Ev.go
            · intro k
              rw [haversackref07_Decode.j2, if_pos rfl, if_pos (by omega), ba_size, if_pos (by omega), hbt, hw]
            · refine Ev.bd (digit_f c) ?_
              have hlt := idx_lt c
              by_cases hneg : Lib.indexByte L64 c < 0
              · simp only [if_pos hneg]
                exact Ev.ret _
              · simp only [if_neg hneg]
                refine Ev.bd (digit_f c) ?_
                obtain ⟨v, hv⟩ : ∃ v : Nat, Lib.indexByte L64 c = v := ⟨(Lib.indexByte L64 c).toNat, by omega⟩
                rw [hv] at hlt ⊢
                rw [Int.toNat_natCast]
                obtain ⟨s2, hx3⟩ := st2 x v hx (by omega)
                simp only [st1 n hn, s2]
                by_cases h16 : 16 ≤ n + 6
                · have e3 : rdS x n us v = (x * 64 % 4194304 + v, n + 6 - 16, us ++ [(x * 64 % 4194304 + v) / 2 ^ (n + 6 - 16) % 65536]) := if_pos h16
                  rw [e3]
                  simp only [if_pos (show ((n + 6 : Nat) : Int) ≥ 16 by omega), st3 n hn h16, if_pos (show (0 : Int) ≤ ((n + 6 - 16 : Nat) : Int) by omega), List.length_map, if_pos (show us.length < 17592186044416 by omega)]
                  generalize x * 64 % 4194304 + v = y at *
                  generalize hm : n + 6 - 16 = m at *
                  have hm2 : m ≤ 15 := by omega
                  have e4 := st4 y m (by omega)
                  have e5 : (y / 2 ^ m % 65536) < 65536 := Nat.mod_lt _ (by decide)
                  generalize y / 2 ^ m % 65536 = u at *
                  simp only [e4]
                  have := n1 out i y m (us ++ [u]) false (by omega) (by rw [decide_eq_false (by omega)]) hx3 (by omega) (by rw [List.length_append, List.length_singleton]; omega) (fun z hz => by
                    rcases List.mem_append.1 hz with h | h
                    · exact hus z h
                    · rw [List.mem_singleton.1 h]; exact e5) ho
                  have e2 : I (us ++ [u]) = I us ++ [(u : Int)] := by simp
                  rw [e2] at this
                  exact this
                · have e3 : rdS x n us v = (x * 64 % 4194304 + v, n + 6, us) := if_neg h16
                  rw [e3]
                  simp only [if_neg (show ¬ ((n + 6 : Nat) : Int) ≥ 16 by omega)]
                  exact n1 out i (x * 64 % 4194304 + v) (n + 6) us false (by omega) (by rw [decide_eq_false (by omega)]) hx3 (by omega) (by omega) hus ho
        refine Ev.go (fun k => ?_) hj
        clear hj n0 n1
        rw [haversackref07_Decode.l1, ba_size, if_pos (by omega), if_pos (by omega), hbt, h45]
    · have hd0 : l.drop pos = [] := List.drop_eq_nil_iff.2 (by omega)
      exact ih pos hp (by omega)
theorem rdec_f (l : List UInt8) (hl : l.length ≤ 5000) : Ev (fun k => haversackref07_Decode.f k (B l)) (match nd l with | none => (B [], 11) | some o => (B o, 0)) := by
  have h := (dec_walk l hl l.length 0 (by omega) (by omega)).1 (B []) (by rw [ba_size]; simp)
  rw [List.drop_zero] at h
  have e : fin l (rdF none (B []) l) = (match nd l with | none => (B [], 11) | some o => (B o, 0)) := by
    cases hn : nd l with
    | some o =>
      obtain ⟨hv, he⟩ := (nd_is l o).1 hn
      have := rd_encB o hv
      rw [he] at this
      rw [this]
      unfold fin
      have dl : (B o).data.toList = o := by simp
      simp only [dl]
      rw [if_pos ⟨hv, he⟩]
    | none =>
      cases hr : rdF none (B []) l with
      | none => rfl
      | some o =>
        unfold fin
        simp only
        rw [if_neg]
        intro hc
        have := (nd_is l o.data.toList).2 hc
        rw [hn] at this
        cases this
  rw [e] at h
  exact h
set_option maxHeartbeats 1000000 in
theorem encodes_law (s t : List UInt8) (h1 : s.length ≤ 600) (h2 : t.length ≤ 600) : Ev (fun k => haversacklaw07_NamesEncodes.j0 k (B s) (B t) false) true := by
  have e1 : names_Encode.f (B s) = some (if Lib.validD s = true then (B (encB s), 0) else (B [], 11)) := by
    rw [names_encode_f s (by omega)]
    by_cases hv : Lib.validD s = true
    · rw [if_pos hv, if_pos hv]
    · rw [if_neg hv, if_neg hv]
  have e2 := names_decode_f t (by omega)
  have e3 := renc_f s (by omega)
  have e4 := rdec_f t (by omega)
  generalize (if Lib.validD s = true then (B (encB s), (0 : Int)) else (B [], 11)) = E at e1 e3
  obtain ⟨R, e2, e4⟩ : ∃ R : ByteArray × Int, names_Decode.f (B t) = some R ∧ Ev (fun k => haversackref07_Decode.f k (B t)) R := by
    cases hn : nd t with
    | none => rw [hn] at e2 e4; exact ⟨_, e2, e4⟩
    | some o => rw [hn] at e2 e4; exact ⟨_, e2, e4⟩
  have fin : Ev (fun k => (haversacklaw07_no.f R.2).bind fun t205 => (if t205 = R.2 then ((haversacklaw07_alive.f k).bind fun t206 => (some t206)) else (some false))) true := by
    rw [no_f]
    simp only [Option.bind_some, if_true]
    exact Ev.bd alive_ev (Ev.ret _)
  apply Ev.go
  · intro k
    rw [haversacklaw07_NamesEncodes.j0, if_neg (by decide), e1, Option.bind_some, e2]
  · refine Ev.bd e3 ?_
    simp only [Option.bind_some]
    refine Ev.bd e4 ?_
    rw [no_f]
    simp only [Option.bind_some, if_true]
    exact fin
theorem NamesEncodes : haversacklaw07_NamesEncodes.Pure := by
  intro a0 a1 _ _
  rw [ba_list a0, ba_list a1]
  generalize a0.data.toList = a
  generalize a1.data.toList = b
  have hal : Ev (fun k => haversacklaw07_NamesEncodes.j0 k (B a) (B b) true) true := by
    apply Ev.go
    · intro k; rw [haversacklaw07_NamesEncodes.j0, if_pos rfl]
    · exact Ev.bd alive_ev (Ev.ret _)
  have hev : Ev (fun k => haversacklaw07_NamesEncodes.f k (B a) (B b)) true := by
    unfold haversacklaw07_NamesEncodes.f
    simp only [ba_size]
    by_cases c0 : (a.length : Int) > 600
    · simp only [if_pos c0]; exact hal
    · simp only [if_neg c0]
      by_cases c1 : (b.length : Int) > 600
      · simp only [decide_eq_true c1]; exact hal
      · simp only [decide_eq_false c1]
        exact encodes_law a b (by omega) (by omega)
  obtain ⟨K, hK⟩ := hev
  exact ⟨K, hK K (Nat.le_refl _)⟩
end Go.Proofs.YtnkibbfpmhgeaaaDoor.Pure
