/-
  Seven bits: the document's Encode and Decode tell the same as names.Encode and names.Decode.
-/
import Derived.Test.YtnkibbfpmhgeaaaDoorPPx12
import Derived.Test.YtnkibbfpmhgeaaaDoorMyNamesD
namespace Go.Proofs.YtnkibbfpmhgeaaaDoor.Pure
open Go.RowKit Go.Proofs.YtnkibbfpmhgeaaaDoor.PP Go.Proofs.YtnkibbfpmhgeaaaDoor.My Go.Proofs.YtnkibbfpmhgeaaaDoorW.PrintWords Go.Proofs.YtnkibbfpmhgeaaaDoorW.PrintLast
set_option linter.unusedVariables false
set_option linter.unusedSimpArgs false
theorem alive_ev : Ev haversacklaw07_alive.f true := ⟨60, fun k hk => alive_k hk⟩
theorem Ev.bd {α β : Type} {g : Nat → Option α} {f : Nat → α → Option β} {a : α} {r : β} (h : Ev g a) (k : Ev (fun n => f n a) r) : Ev (fun n => (g n).bind (f n)) r := by
  obtain ⟨K, hK⟩ := h
  obtain ⟨M, hM⟩ := k
  refine ⟨K + M, fun n hn => ?_⟩
  simp only [hK n (by omega), Option.bind_some]
  exact hM n (by omega)
theorem Ev.ret {α : Type} (r : α) : Ev (fun _ => some r) r := ⟨0, fun _ _ => rfl⟩
theorem Ev.pure {α : Type} {o : Option α} {r : α} (h : o = some r) : Ev (fun _ => o) r := ⟨0, fun _ _ => h⟩
theorem Ev.go {α : Type} {g f : Nat → Option α} {r : α} (h : ∀ k, g (k + 1) = f k) (k : Ev f r) : Ev g r := Ev.next h k
theorem no_f (x : Int) : haversacklaw07_no.f x = some x := by unfold haversacklaw07_no.f; rfl
abbrev I (l : List Nat) : List Int := l.map (fun n : Nat => (n : Int))
theorem rdI (l : List Nat) (i : Nat) (h : i < l.length) : rd (I l) (i : Int) = (l[i] : Int) := by
  unfold rd
  simp [List.getD_eq_getElem?_getD, h]
theorem and1 (n : Int) : Go.bits .and .i64 n 1 = n % 2 := by
  have h1 : (BitVec.ofInt 64 1).toNat = 2 ^ 1 - 1 := by decide
  have key : (BitVec.ofInt 64 n &&& BitVec.ofInt 64 1).toNat = (n % ((2 ^ 64 : Nat) : Int)).toNat % 2 ^ 1 := by
    rw [BitVec.toNat_and, BitVec.toNat_ofInt, h1, Nat.and_two_pow_sub_one_eq_mod]
  show IntKind.i64.wrap ((BitVec.ofInt 64 n &&& BitVec.ofInt 64 1).toNat : Nat) = n % 2
  rw [key, IntKind.wrap_i64]
  omega
theorem shrN (a j : Nat) (h : j ≤ 64) : shr .i64 (a : Int) (j : Int) = ((a / 2 ^ j : Nat) : Int) := by
  unfold shr
  rw [Int.toNat_natCast, show IntKind.i64.bits = 64 from rfl, Nat.min_eq_left h]
  simp

/-! ### the document's run of letters -/
theorem letter_all : ∀ v : Fin 64, haversackref07_Letter.f (v.val : Int) = some (B [let64 v.val]) := by decide +kernel
theorem letter_f (v : Nat) (h : v < 64) : haversackref07_Letter.f (v : Int) = some (B [let64 v]) := letter_all ⟨v, h⟩
theorem shift_l1 (us : List Nat) (hl : us.length ≤ 1000000) (i : Nat) (hi : i < us.length) (v : ByteArray) : ∀ j, j ≤ 16 → ∀ bs : List Nat, bs.length + j ≤ 1000000000 →
    Ev (fun k => haversackref07_shifted.l0 k (I us) (I (bs ++ bitsN j us[i])) ((i : Int) + 1)) v → Ev (fun k => haversackref07_shifted.l1 k (I us) (I bs) (i : Int) ((j : Int) - 1)) v := by
  intro j
  induction j with
  | zero =>
    intro _ bs hb H
    refine Ev.go (fun k => ?_) H
    rw [haversackref07_shifted.l1, if_neg (by omega), w64 (by omega)]
    simp [bitsN]
  | succ j ih =>
    intro hj bs hb H
    have e : I bs ++ [((us[i] / 2 ^ j % 2 : Nat) : Int)] = I (bs ++ [us[i] / 2 ^ j % 2]) := by simp
    have e2 : bs ++ bitsN (j + 1) us[i] = (bs ++ [us[i] / 2 ^ j % 2]) ++ bitsN j us[i] := by simp [bitsN]
    rw [e2] at H
    refine Ev.go (fun k => ?_) (ih (by omega) (bs ++ [us[i] / 2 ^ j % 2]) (by simp; omega) H)
    have hj1 : (((j + 1 : Nat) : Int) - 1) = (j : Int) := by omega
    have hand : Go.bits .and .i64 (shr .i64 (rd (I us) (i : Int)) (j : Int)) 1 = ((us[i] / 2 ^ j % 2 : Nat) : Int) := by
      rw [and1, rdI us i hi, shrN _ _ (by omega)]; omega
    rw [haversackref07_shifted.l1, hj1, if_pos (by omega), if_pos (by omega), if_pos (by simpa using hi), if_pos (by omega), hand, if_pos (by rw [List.length_map]; omega), w64 (by omega), e]
theorem shift_l0 (us : List Nat) (hl : us.length ≤ 1000000) (v : ByteArray) (H : Ev (fun k => haversackref07_shifted.l2 k (I (uniBits us))) v) : ∀ d i, i + d = us.length → Ev (fun k => haversackref07_shifted.l0 k (I us) (I (uniBits (us.take i))) (i : Int)) v := by
  intro d
  induction d with
  | zero =>
    intro i hi
    refine Ev.go (fun k => ?_) H
    rw [haversackref07_shifted.l0, List.length_map, if_neg (by omega), List.take_of_length_le (by omega)]
  | succ d ih =>
    intro i hi
    have hil : i < us.length := by omega
    have hlen : (uniBits (us.take i)).length ≤ 16 * us.length := by
      have : ∀ x : List Nat, (uniBits x).length = 16 * x.length := by
        intro x
        induction x with
        | nil => rfl
        | cons a x ih2 =>
          have : uniBits (a :: x) = bitsN 16 a ++ uniBits x := by simp [uniBits]
          rw [this, List.length_append, bitsN_len, ih2, List.length_cons]; omega
      rw [this, List.length_take]; omega
    have e : uniBits (us.take (i + 1)) = uniBits (us.take i) ++ bitsN 16 us[i] := by
      rw [List.take_succ_eq_append_getElem hil, uniBits_app]; simp [uniBits]
    have H2 := ih (i + 1) (by omega)
    rw [e] at H2
    refine Ev.go (fun k => ?_) (shift_l1 us hl i hil v 16 (by omega) (uniBits (us.take i)) (by omega) H2)
    rw [haversackref07_shifted.l0, List.length_map, if_pos (by omega)]
    rfl
theorem shift_l2 (v : ByteArray) : ∀ d : Nat, d < 6 → ∀ T : List Nat, T.length + d ≤ 200000000 → (T.length + d) % 6 = 0 →
    Ev (fun k => haversackref07_shifted.l3 k (I (T ++ List.replicate d 0)) (B [38]) 0) v → Ev (fun k => haversackref07_shifted.l2 k (I T)) v := by
  intro d
  induction d with
  | zero =>
    intro _ T hT h0 H
    refine Ev.go (fun k => ?_) H
    rw [haversackref07_shifted.l2, List.length_map, if_neg (by omega)]
    simp
  | succ d ih =>
    intro hd T hT h0 H
    have e : T ++ List.replicate (d + 1) 0 = (T ++ [0]) ++ List.replicate d 0 := by simp [List.replicate_succ]
    rw [e] at H
    refine Ev.go (fun k => ?_) (ih (by omega) (T ++ [0]) (by rw [List.length_append, List.length_singleton]; omega) (by rw [List.length_append, List.length_singleton]; omega) H)
    rw [haversackref07_shifted.l2, List.length_map, if_pos (by omega), if_pos (by omega)]
    simp
theorem val_six (a b c d e f : Nat) : val [a, b, c, d, e, f] = 32 * a + 16 * b + 8 * c + 4 * d + 2 * e + f := by
  simp only [val, List.foldl_cons, List.foldl_nil]; omega
theorem shift_l3 (Q : List Nat) (hb : isBits Q) (hQ : Q.length ≤ 100000000) : ∀ m j : Nat, j + 6 * m = Q.length → ∀ acc : List UInt8, acc.length ≤ j + 10 →
    Ev (fun k => haversackref07_shifted.l3 k (I Q) (B acc) (j : Int)) (B (acc ++ (encFull (Q.drop j)).1 ++ [45])) := by
  intro m
  induction m with
  | zero =>
    intro j hj acc ha
    refine Ev.now fun k => ?_
    rw [haversackref07_shifted.l3, List.length_map, if_neg (by omega), ba_size, if_pos (by omega), List.drop_eq_nil_iff.2 (by omega), show (⟨#[45]⟩ : ByteArray) = B [45] from rfl, ba_app]
    simp [encFull]
  | succ m ih =>
    intro j hj acc ha
    have hd : Q.drop j = [Q[j], Q[j + 1], Q[j + 2], Q[j + 3], Q[j + 4], Q[j + 5]] ++ Q.drop (j + 6) := by
      rw [List.drop_eq_getElem_cons (show j < Q.length by omega), List.drop_eq_getElem_cons (show j + 1 < Q.length by omega), List.drop_eq_getElem_cons (show j + 1 + 1 < Q.length by omega), List.drop_eq_getElem_cons (show j + 1 + 1 + 1 < Q.length by omega), List.drop_eq_getElem_cons (show j + 1 + 1 + 1 + 1 < Q.length by omega), List.drop_eq_getElem_cons (show j + 1 + 1 + 1 + 1 + 1 < Q.length by omega)]
      rfl
    have b0 := hb Q[j] (List.getElem_mem _)
    have b1 := hb Q[j + 1] (List.getElem_mem _)
    have b2 := hb Q[j + 2] (List.getElem_mem _)
    have b3 := hb Q[j + 3] (List.getElem_mem _)
    have b4 := hb Q[j + 4] (List.getElem_mem _)
    have b5 := hb Q[j + 5] (List.getElem_mem _)
    have r0 := rdI Q j (by omega)
    have r1 := rdI Q (j + 1) (by omega)
    have r2 := rdI Q (j + 2) (by omega)
    have r3 := rdI Q (j + 3) (by omega)
    have r4 := rdI Q (j + 4) (by omega)
    have r5 := rdI Q (j + 5) (by omega)
    rw [show ((j + 1 : Nat) : Int) = (j : Int) + 1 by omega] at r1
    rw [show ((j + 2 : Nat) : Int) = (j : Int) + 2 by omega] at r2
    rw [show ((j + 3 : Nat) : Int) = (j : Int) + 3 by omega] at r3
    rw [show ((j + 4 : Nat) : Int) = (j : Int) + 4 by omega] at r4
    rw [show ((j + 5 : Nat) : Int) = (j : Int) + 5 by omega] at r5
    have IH := ih (j + 6) (by omega) (acc ++ [let64 (val [Q[j], Q[j + 1], Q[j + 2], Q[j + 3], Q[j + 4], Q[j + 5]])]) (by simp; omega)
    have R : acc ++ (encFull (Q.drop j)).1 ++ [45] = acc ++ [let64 (val [Q[j], Q[j + 1], Q[j + 2], Q[j + 3], Q[j + 4], Q[j + 5]])] ++ (encFull (Q.drop (j + 6))).1 ++ [45] := by
      rw [hd, encFull_cons _ _ rfl]; simp
    rw [R]
    have hv := val_six Q[j] Q[j + 1] Q[j + 2] Q[j + 3] Q[j + 4] Q[j + 5]
    generalize val [Q[j], Q[j + 1], Q[j + 2], Q[j + 3], Q[j + 4], Q[j + 5]] = V at *
    have hlet : ∀ z : Int, z = (V : Int) → haversackref07_Letter.f z = some (B [let64 V]) := by
      rintro z rfl
      exact letter_f V (by omega)
    refine Ev.go (fun k => ?_) IH
    clear IH R hd
    generalize Q[j] = q0 at *
    generalize Q[j + 1] = q1 at *
    generalize Q[j + 2] = q2 at *
    generalize Q[j + 3] = q3 at *
    generalize Q[j + 4] = q4 at *
    generalize Q[j + 5] = q5 at *
    rw [haversackref07_shifted.l3, List.length_map, if_pos (by omega), if_pos (by omega), w64 (x := (j : Int) + 1) (by omega), if_pos (by omega), if_pos (by omega), w64 (x := (j : Int) + 2) (by omega), if_pos (by omega), if_pos (by omega), w64 (x := (j : Int) + 3) (by omega), if_pos (by omega), if_pos (by omega), w64 (x := (j : Int) + 4) (by omega), if_pos (by omega), if_pos (by omega), w64 (x := (j : Int) + 5) (by omega), if_pos (by omega), if_pos (by omega), r0, r1, r2, r3, r4, r5,
      w64 (x := 32 * (q0 : Int)) (by omega), w64 (x := 16 * (q1 : Int)) (by omega), w64 (x := 8 * (q2 : Int)) (by omega), w64 (x := 4 * (q3 : Int)) (by omega), w64 (x := 2 * (q4 : Int)) (by omega), w64 (x := 32 * (q0 : Int) + 16 * (q1 : Int)) (by omega), w64 (x := 32 * (q0 : Int) + 16 * (q1 : Int) + 8 * (q2 : Int)) (by omega), w64 (x := 32 * (q0 : Int) + 16 * (q1 : Int) + 8 * (q2 : Int) + 4 * (q3 : Int)) (by omega), w64 (x := 32 * (q0 : Int) + 16 * (q1 : Int) + 8 * (q2 : Int) + 4 * (q3 : Int) + 2 * (q4 : Int)) (by omega), w64 (x := 32 * (q0 : Int) + 16 * (q1 : Int) + 8 * (q2 : Int) + 4 * (q3 : Int) + 2 * (q4 : Int) + (q5 : Int)) (by omega), hlet _ (by omega), Option.bind_some, ba_size, ba_size, if_pos (by simp; omega), ba_app, w64 (by omega)]
    rfl
theorem uniBits_len (x : List Nat) : (uniBits x).length = 16 * x.length := by
  induction x with
  | nil => rfl
  | cons a x ih =>
    have : uniBits (a :: x) = bitsN 16 a ++ uniBits x := by simp [uniBits]
    rw [this, List.length_append, bitsN_len, ih, List.length_cons]; omega
theorem shifted_f (us : List Nat) (hl : us.length ≤ 1000000) : Ev (fun k => haversackref07_shifted.f k (I us)) (B (38 :: (enc6 (uniBits us) ++ [45]))) := by
  have hlen := uniBits_len us
  refine shift_l0 us hl _ ?_ us.length 0 (by omega)
  obtain ⟨m, hm⟩ := whole (uniBits us)
  have hp6 := pad6_short (encFull (uniBits us)).2
  have hrep : pad6 (encFull (uniBits us)).2 = List.replicate (pad6 (encFull (uniBits us)).2).length 0 := by
    rw [List.eq_replicate_iff]
    refine ⟨rfl, fun b hb => ?_⟩
    unfold pad6 at hb
    split at hb
    · cases hb
    · exact (List.mem_replicate.1 hb).2
  refine shift_l2 _ (pad6 (encFull (uniBits us)).2).length hp6 (uniBits us) (by omega) (by rw [List.length_append] at hm; omega) ?_
  rw [← hrep]
  have := shift_l3 (uniBits us ++ pad6 (encFull (uniBits us)).2) ((uniBits_bits us).app (pad6_bits _)) (by rw [List.length_append]; omega) m 0 (by omega) [38] (by simp)
  rw [List.drop_zero, ← enc6_pad] at this
  exact this

/-! ### the document's Encode -/
theorem enc6_len (T : List Nat) : 6 * (enc6 T).length ≤ T.length + 6 := by
  have h := encFull_len T.length T (Nat.le_refl _)
  unfold enc6
  rw [List.length_append]
  split
  · simp; omega
  · simp; omega
theorem unitsN_len (r : Nat) : (unitsN r).length ≤ 2 ∧ 1 ≤ (unitsN r).length := by unfold unitsN; split <;> simp
theorem units_len (q : List Nat) : (q.flatMap unitsN).length ≤ 2 * q.length ∧ q.length ≤ (q.flatMap unitsN).length := by
  induction q with
  | nil => simp
  | cons r q ih =>
    have := unitsN_len r
    rw [List.flatMap_cons, List.length_append, List.length_cons]; omega
theorem units_f (r : Nat) (h : r ≤ 1114111) : haversackref07_units.f (wrap64 (r : Int)) = some (I (unitsN r)) := by
  unfold haversackref07_units.f unitsN
  rw [w64 (x := (r : Int)) (by omega)]
  by_cases c : 65536 ≤ r
  · rw [if_neg (by omega), if_pos c]
    have e1 : Int.tdiv ((r : Int) - 65536) 1024 = ((r : Int) - 65536) / 1024 := Int.tdiv_eq_ediv_of_nonneg (by omega)
    have e2 : Int.tmod ((r : Int) - 65536) 1024 = ((r : Int) - 65536) % 1024 := Int.tmod_eq_emod_of_nonneg (by omega)
    rw [w64 (x := (r : Int) - 65536) (by omega), e1, e2, w64 (x := ((r : Int) - 65536) / 1024) (by omega), w64 (x := 55296 + ((r : Int) - 65536) / 1024) (by omega), w64 (x := 56320 + ((r : Int) - 65536) % 1024) (by omega)]
    congr 1
    simp only [I, List.map_cons, List.map_nil]
    rw [show 55296 + ((r : Int) - 65536) / 1024 = ((55296 + (r - 65536) / 1024 : Nat) : Int) by omega, show 56320 + ((r : Int) - 65536) % 1024 = ((56320 + (r - 65536) % 1024 : Nat) : Int) by omega]
  · rw [if_pos (by omega), if_neg c]
    rfl
theorem decodeL_low (l : List UInt8) (hne : l ≠ []) (h : (Lib.decodeL l).1 < 128) : (Lib.decodeL l).1 = (l.getD 0 0).toNat ∧ (Lib.decodeL l).2 = 1 := by
  rw [Lib.decodeL_N] at h ⊢
  rcases Lib.decodeN_shape l.length (l.getD 0 0).toNat (l.getD 1 0).toNat (l.getD 2 0).toNat (l.getD 3 0).toNat with ⟨c, e⟩ | ⟨c1, c2, c3, cv, e⟩ | ⟨c1, c2, c3, c4, cv, cs, e⟩ | ⟨c1, c2, c3, c4, c5, cv, cw, e⟩ | e
  all_goals (rw [e] at h ⊢; dsimp only at h ⊢)
  · exact ⟨rfl, rfl⟩
  all_goals omega
theorem decodeL_le (l : List UInt8) (hne : l ≠ []) : (Lib.decodeL l).2 ≤ l.length ∧ 1 ≤ (Lib.decodeL l).2 := by
  have hl : 0 < l.length := List.length_pos_iff.2 hne
  rw [Lib.decodeL_N]
  rcases Lib.decodeN_shape l.length (l.getD 0 0).toNat (l.getD 1 0).toNat (l.getD 2 0).toNat (l.getD 3 0).toNat with ⟨c, e⟩ | ⟨c1, c2, c3, cv, e⟩ | ⟨c1, c2, c3, c4, cv, cs, e⟩ | ⟨c1, c2, c3, c4, c5, cv, cw, e⟩ | e
  all_goals (rw [e]; dsimp only; omega)
theorem flushQ_len (q : List Nat) : (flushQ q).length ≤ 10 * q.length := by
  unfold flushQ
  split
  · simp
  · rename_i h
    have h1 := enc6_len (uniBits (q.flatMap unitsN))
    rw [uniBits_len] at h1
    have h2 := units_len q
    have h3 := List.length_pos_iff.2 h
    simp only [List.length_cons, List.length_append, List.length_nil]
    omega
theorem renc_l1 (l : List UInt8) (out : List UInt8) (p : List Nat) (pos : Int) (v : ByteArray × Int) (un : List Nat) (hun : un.length ≤ 2) (hp : p.length ≤ 10000000)
    (H : Ev (fun k => haversackref07_Encode.l0 k (B l) (B out) (I (p ++ un)) pos) v) : ∀ d i, i + d = un.length → Ev (fun k => haversackref07_Encode.l1 k (B l) (B out) (I (p ++ un.take i)) pos (I un) (i : Int)) v := by
  intro d
  induction d with
  | zero =>
    intro i hi
    refine Ev.go (fun k => ?_) H
    rw [haversackref07_Encode.l1, List.length_map, if_neg (by omega), List.take_of_length_le (by omega)]
  | succ d ih =>
    intro i hi
    have hil : i < un.length := by omega
    have e : I (p ++ un.take i) ++ [(un[i] : Int)] = I (p ++ un.take (i + 1)) := by
      rw [List.take_succ_eq_append_getElem hil, ← List.append_assoc, I, I, List.map_append (l₁ := p ++ un.take i)]; rfl
    refine Ev.go (fun k => ?_) (ih (i + 1) (by omega))
    rw [haversackref07_Encode.l1, List.length_map, if_pos (by omega), if_pos (by omega), List.length_map, if_pos (by rw [List.length_append, List.length_take]; omega), rdI un i hil, w64 (by omega), e]
    rfl
theorem goDec (l : List UInt8) (i : Nat) (h : i < l.length) : Lib.decodeGo ((B l).extract i l.length) = Lib.decodeL (l.drop i) := by
  rw [ba_drop]
  unfold Lib.decodeGo
  rw [ba_size, if_neg (by rw [List.length_drop]; omega)]
  rfl
theorem one_byte (x : UInt8) : strOfNums [(x.toNat : Int)] = B [x] := by
  unfold strOfNums
  simp
set_option maxHeartbeats 1000000 in
theorem renc_l0 (l : List UInt8) (hl : l.length ≤ 100000) : ∀ n i : Nat, i ≤ l.length → l.length - i ≤ n → ∀ (out : List UInt8) (q : List Nat), (∀ r, r ∈ q → goodR r) → out.length + 10 * q.length ≤ 20 * i →
    Ev (fun k => haversackref07_Encode.l0 k (B l) (B out) (I (q.flatMap unitsN)) (i : Int)) (B (out ++ encR q (runesL n (l.drop i))), 0) := by
  intro n
  induction n with
  | zero =>
    intro i hi hn out q hq hb
    have hu := units_len q
    rw [runesL, encR]
    by_cases h : q = []
    · subst h
      refine Ev.now fun k => ?_
      rw [haversackref07_Encode.l0, ba_size, if_neg (by omega), if_neg (by simp)]
      simp [flushQ]
    · have h1 : 0 < q.length := List.length_pos_iff.2 h
      have hf := flushQ_len q
      rw [flushQ, if_neg h] at hf ⊢
      apply Ev.go
      · intro k; rw [haversackref07_Encode.l0, ba_size, if_neg (by omega), if_pos (by rw [List.length_map]; omega)]
      · refine Ev.bd (shifted_f _ (by omega)) ?_
        simp only [ba_size, if_pos (show out.length + (38 :: (enc6 (uniBits (q.flatMap unitsN)) ++ [45])).length ≤ 9223372036854775807 by omega), ba_app]
        exact Ev.ret _
  | succ n ih =>
    intro i hi hn out q hq hb
    have hu := units_len q
    by_cases hil : i < l.length
    · have hne : l.drop i ≠ [] := fun e => by have := List.drop_eq_nil_iff.1 e; omega
      have hw := decodeL_le (l.drop i) hne
      rw [List.length_drop] at hw
      have hgood : goodR (Lib.decodeL (l.drop i)).1 := by rw [Lib.decodeL_N]; exact (decodeN_good _ _ _ _ _).1
      have hlow := decodeL_low (l.drop i) hne
      have hget : (l.drop i).getD 0 0 = l[i] := by rw [List.drop_eq_getElem_cons hil]; rfl
      rw [runesL, if_neg hne, List.drop_drop]
      have hdec : utf8_DecodeRuneInString.f ((B l).extract i l.length) = some (((Lib.decodeL (l.drop i)).1 : Int), ((Lib.decodeL (l.drop i)).2 : Int)) := by
        unfold utf8_DecodeRuneInString.f
        rw [goDec l i hil]
      rw [hget] at hlow
      generalize (Lib.decodeL (l.drop i)).1 = r at *
      generalize (Lib.decodeL (l.drop i)).2 = w at *
      have hr := good_le hgood
      have hbt : bt (B l) (i : Int) = (l[i].toNat : Int) := by rw [btn, getD_at l i hil]
      have hiw : ((i : Int) + (w : Int)) = ((i + w : Nat) : Int) := by omega
      rw [encR]
      by_cases hp : plainR r
      · rw [if_pos hp]
        unfold plainR at hp
        obtain ⟨hrb, hw1⟩ := hlow (by omega)
        have hof : UInt8.ofNat r = l[i] := by rw [hrb]; simp
        have hone : strOfNums [(l[i].toNat : Int)] = B [l[i]] := one_byte l[i]
        have hf := flushQ_len q
        have dash : (if l[i].toNat = 38 then [(45 : UInt8)] else []).length ≤ 1 := by split <;> simp
        have nx := ih (i + w) (by omega) (by omega) (out ++ (flushQ q ++ (UInt8.ofNat r :: (if r = 38 then [45] else [])))) [] (fun x hx => by cases hx) (by
          rw [hrb] at *
          simp only [List.length_append, List.length_cons, List.length_nil]; omega)
        rw [hof, hrb] at nx ⊢
        have R : out ++ (flushQ q ++ (l[i] :: (if l[i].toNat = 38 then [45] else [])) ++ encR [] (runesL n (l.drop (i + w)))) = out ++ (flushQ q ++ (l[i] :: (if l[i].toNat = 38 then [45] else []))) ++ encR [] (runesL n (l.drop (i + w))) := by simp
        rw [R]
        have hj : Ev (fun k => haversackref07_Encode.j1 k (B l) (B out) (I (q.flatMap unitsN)) ((i + w : Nat) : Int) (r : Int) (l[i].toNat : Int) false) (B (out ++ (flushQ q ++ (l[i] :: (if l[i].toNat = 38 then [45] else []))) ++ encR [] (runesL n (l.drop (i + w)))), 0) := by
          by_cases h : q = []
          · subst h
            refine Ev.go (fun k => ?_) nx
            rw [haversackref07_Encode.j1, if_neg (by decide), if_neg (by simp), Option.bind_some, hone, ba_size, ba_size, if_pos (by simp; omega)]
            by_cases h38 : l[i].toNat = 38
            · rw [if_pos (by omega), if_pos (by simp; omega), show (⟨#[45]⟩ : ByteArray) = B [45] from rfl, ba_app, ba_app, if_pos h38]
              simp [flushQ]
            · rw [if_neg (by omega), ba_app, if_neg h38]
              simp [flushQ]
          · have h1 : 0 < q.length := List.length_pos_iff.2 h
            rw [flushQ, if_neg h] at nx hf ⊢
            apply Ev.go
            · intro k; rw [haversackref07_Encode.j1, if_neg (by decide), if_pos (by rw [List.length_map]; omega)]
            · refine Ev.bd (shifted_f _ (by omega)) ?_
              generalize hfl : 38 :: (enc6 (uniBits (q.flatMap unitsN)) ++ [45]) = fl at *
              simp only [Option.bind_some, hone, ba_size, List.length_singleton, if_pos (show out.length + fl.length ≤ 9223372036854775807 by omega), if_pos (show out.length + fl.length + 1 ≤ 9223372036854775807 by omega)]
              by_cases h38 : l[i].toNat = 38
              · simp only [if_pos (show (l[i].toNat : Int) = 38 by omega), if_pos (show out.length + fl.length + 1 + 1 ≤ 9223372036854775807 by omega), show (⟨#[45]⟩ : ByteArray) = B [45] from rfl, ba_app]
                rw [if_pos h38] at nx ⊢
                have e : out ++ fl ++ [l[i]] ++ [45] = out ++ (fl ++ [l[i], 45]) := by simp
                rw [e]; exact nx
              · simp only [if_neg (show ¬ (l[i].toNat : Int) = 38 by omega), ba_app]
                rw [if_neg h38] at nx ⊢
                have e : out ++ fl ++ [l[i]] = out ++ (fl ++ [l[i]]) := by simp
                rw [e]; exact nx
        refine Ev.go (fun k => ?_) hj
        rw [haversackref07_Encode.l0, ba_size, if_pos (by omega), if_pos (by omega), if_pos (by omega), Int.toNat_natCast, hdec, Option.bind_some]
        simp only
        rw [if_neg (by omega), hiw, w64 (by omega), hbt, decide_eq_false (by omega)]
      · rw [if_neg hp]
        have hu2 := unitsN_len r
        have nx := ih (i + w) (by omega) (by omega) out (q ++ [r]) (fun x hx => (List.mem_append.1 hx).elim (hq x) (fun h => by rw [List.mem_singleton.1 h]; exact hgood)) (by rw [List.length_append, List.length_singleton]; omega)
        rw [List.flatMap_append, show [r].flatMap unitsN = unitsN r by simp] at nx
        have h1 := renc_l1 l out (q.flatMap unitsN) ((i + w : Nat) : Int) _ (unitsN r) (by omega) (by omega) nx (unitsN r).length 0 (by omega)
        rw [List.take_zero, List.append_nil] at h1
        have hj : Ev (fun k => haversackref07_Encode.j1 k (B l) (B out) (I (q.flatMap unitsN)) ((i + w : Nat) : Int) (r : Int) (l[i].toNat : Int) true) (B (out ++ encR (q ++ [r]) (runesL n (l.drop (i + w)))), 0) := by
          refine Ev.go (fun k => ?_) h1
          rw [haversackref07_Encode.j1, if_pos rfl, units_f r hr, Option.bind_some]
          rfl
        refine Ev.go (fun k => ?_) hj
        rw [haversackref07_Encode.l0, ba_size, if_pos (by omega), if_pos (by omega), if_pos (by omega), Int.toNat_natCast, hdec, Option.bind_some]
        simp only
        unfold plainR at hp
        by_cases h32 : r < 32
        · rw [if_pos (by omega), hiw, w64 (by omega), hbt]
        · rw [if_neg (by omega), hiw, w64 (by omega), hbt, decide_eq_true (by omega)]
    · have hd : l.drop i = [] := List.drop_eq_nil_iff.2 (by omega)
      have := ih i hi (by omega) out q hq hb
      rw [hd] at this ⊢
      have e : ∀ m, runesL m [] = [] := fun m => by cases m <;> simp [runesL]
      rw [e] at this ⊢
      exact this
theorem renc_f (l : List UInt8) (hl : l.length ≤ 100000) : Ev (fun k => haversackref07_Encode.f k (B l)) (if Lib.validD l = true then (B (encB l), 0) else (B [], 11)) := by
  unfold haversackref07_Encode.f
  refine Ev.bd (a := Lib.validD l) (Ev.pure (by unfold utf8_ValidString.f; rw [ba_size, if_pos (by omega)])) ?_
  by_cases hv : Lib.validD l = true
  · simp only [hv, if_true]
    have := renc_l0 l hl l.length 0 (by omega) (by omega) [] [] (fun x hx => by cases hx) (by simp)
    rw [List.drop_zero, List.nil_append] at this
    exact this
  · simp only [hv]
    exact Ev.ret _

/-! ### the document's Decode -/
def rdS (x n : Nat) (us : List Nat) (d : Nat) : Nat × Nat × List Nat :=
  if 16 ≤ n + 6 then (x * 64 % 4194304 + d, n + 6 - 16, us ++ [(x * 64 % 4194304 + d) / 2 ^ (n + 6 - 16) % 65536]) else (x * 64 % 4194304 + d, n + 6, us)
def rletB : List Nat → ByteArray
  | [] => B []
  | [u] => Utf8.encode (u : Int)
  | u :: v :: r => if (55296 ≤ u ∧ u < 56320) ∧ (56320 ≤ v ∧ v < 57344) then Utf8.encode ((65536 + (u - 55296) * 1024 + v - 56320 : Nat) : Int) ++ rletB r else Utf8.encode (u : Int) ++ rletB (v :: r)
def rdF : Option (Nat × Nat × List Nat × Bool) → ByteArray → List UInt8 → Option ByteArray
  | none, out, [] => some out
  | some _, _, [] => none
  | none, out, c :: s => if c = 38 then rdF (some (0, 0, [], true)) out s else rdF none (out ++ B [c]) s
  | some (x, n, us, first), out, c :: s =>
    if c = 45 then rdF none (out ++ (if first = true then B [38] else rletB us)) s
    else if Lib.indexByte L64 c < 0 then none
    else rdF (some ((rdS x n us (Lib.indexByte L64 c).toNat).1, (rdS x n us (Lib.indexByte L64 c).toNat).2.1, (rdS x n us (Lib.indexByte L64 c).toNat).2.2, false)) out s
theorem bapp_assoc (a b c : ByteArray) : a ++ b ++ c = a ++ (b ++ c) := by apply ba_ext; simp
theorem bapp_nil (a : ByteArray) : a ++ B [] = a := by apply ba_ext; simp
theorem B_app (l m : List UInt8) : B l ++ B m = B (l ++ m) := ba_app l m
theorem bapp_B (o : ByteArray) (l m : List UInt8) : o ++ B l ++ B m = o ++ B (l ++ m) := by apply ba_ext; simp
theorem bnil_app (a : ByteArray) : B [] ++ a = a := by apply ba_ext; simp
theorem rlet_one (u : Nat) (r : List Nat) (h : ¬ (55296 ≤ u ∧ u < 56320)) : rletB (u :: r) = Utf8.encode (u : Int) ++ rletB r := by
  cases r with
  | nil => rw [rletB, rletB, bapp_nil]
  | cons v r => rw [rletB, if_neg (fun x => h x.1)]
theorem rlet_units : ∀ q : List Nat, (∀ r, r ∈ q → goodR r) → rletB (q.flatMap unitsN) = B (q.flatMap utf) := by
  intro q
  induction q with
  | nil => intro _; rfl
  | cons r q ih =>
    intro h
    have hr := h r (List.mem_cons_self ..)
    have hq := ih (fun x hx => h x (List.mem_cons_of_mem _ hx))
    rw [List.flatMap_cons, List.flatMap_cons, ← B_app, ← hq, ← encN r hr]
    unfold goodR at hr
    by_cases c : 65536 ≤ r
    · have e : unitsN r = [55296 + (r - 65536) / 1024, 56320 + (r - 65536) % 1024] := if_pos c
      rw [e, List.cons_append, List.cons_append, List.nil_append, rletB, if_pos ⟨⟨by omega, by omega⟩, ⟨by omega, by omega⟩⟩]
      rw [show 65536 + (55296 + (r - 65536) / 1024 - 55296) * 1024 + (56320 + (r - 65536) % 1024) - 56320 = r by omega]
    · have e : unitsN r = [r] := if_neg c
      rw [e, List.singleton_append, rlet_one r _ (by omega)]
theorem rd_fold (rest : List UInt8) (out : ByteArray) : ∀ m (R : List Nat), R.length = 6 * m → isBits R → ∀ P, isBits P → P.length < 16 → ∀ V z, P ++ R = uniBits V ++ z → z.length < 6 → (∀ v, v ∈ V → v < 65536) → ∀ x us, x % 2 ^ P.length = val P → x < 4194304 →
    rdF (some (x, P.length, us, false)) out ((encFull R).1 ++ 45 :: rest) = rdF none (out ++ rletB (us ++ V)) rest := by
  intro m
  induction m with
  | zero =>
    intro R hR _ P hP hPl V z h hz hV x us hx hx2
    obtain rfl : R = [] := List.eq_nil_of_length_eq_zero (by omega)
    cases V with
    | nil =>
      rw [encFull_short [] (by decide), List.nil_append, rdF, if_pos rfl, List.append_nil]
      rfl
    | cons v V' =>
      exfalso
      have := congrArg List.length h
      have e : (uniBits (v :: V')).length = 16 + (uniBits V').length := by simp [uniBits, bitsN_len]
      rw [List.length_append, List.length_append, e] at this
      simp at this; omega
  | succ m ih =>
    intro R hR hRb P hP hPl V z h hz hV x us hx hx2
    obtain ⟨G, R', rfl, hG⟩ := split6 R (by omega)
    rw [List.length_append, hG] at hR
    have hg := val6 G hRb.left hG
    have hb : isBits (P ++ G) := hP.app hRb.left
    have hlen : (P ++ G).length = P.length + 6 := by rw [List.length_append, hG]
    have h64 : x * 64 % 4194304 = (x % 65536) * 64 := by omega
    have hx3 : x * 64 % 4194304 + val G < 4194304 := by omega
    have hxv : (x * 64 % 4194304 + val G) % 2 ^ (P.length + 6) = val (P ++ G) := by
      have hp2 : 2 ^ (P.length + 6) = 2 ^ P.length * 64 := by rw [Nat.pow_add]
      have hdvd : 2 ^ (P.length + 6) ∣ 4194304 := by
        have : (4194304 : Nat) = 2 ^ 22 := by decide
        rw [this]
        exact Nat.pow_dvd_pow 2 (by omega)
      have hvl := val_lt P hP
      have h1 : (x * 64 % 4194304) % 2 ^ (P.length + 6) = val P * 64 := by
        rw [Nat.mod_mod_of_dvd _ hdvd, hp2, Nat.mul_mod_mul_right, hx]
      rw [Nat.add_mod, h1, Nat.mod_eq_of_lt (show val G < 2 ^ (P.length + 6) by rw [hp2]; have := Nat.two_pow_pos P.length; omega), Nat.mod_eq_of_lt, val_app, hG]
      rw [hp2]
      have : (val P + 1) * 64 ≤ 2 ^ P.length * 64 := Nat.mul_le_mul_right 64 hvl
      omega
    rw [encFull_cons G R' hG, List.cons_append, rdF, if_neg (let_ne _ hg), let_idx _ hg, if_neg (by omega), Int.toNat_natCast]
    by_cases h16 : P.length + 6 < 16
    · have e : rdS x P.length us (val G) = (x * 64 % 4194304 + val G, (P ++ G).length, us) := by
        unfold rdS
        rw [if_neg (by omega), hlen]
      rw [e]
      exact ih R' (by omega) hRb.right (P ++ G) hb (by omega) V z (by rw [List.append_assoc]; exact h) hz hV _ us (by rw [hlen]; exact hxv) hx3
    · obtain ⟨v, V', Q, rfl, hv, hPG, hQl, hQR, hQ⟩ := cut16 P G R' V z h hG hz (by omega) hb hV
      obtain ⟨hu, hr⟩ := unit_out P G Q v hPG hv hQ
      have hsum : P.length + 6 = Q.length + 16 := by omega
      have hu2 : (x * 64 % 4194304 + val G) / 2 ^ Q.length % 65536 = v := by
        rw [← hu, ← hxv, hsum, Nat.pow_add, show 2 ^ 16 = 65536 by decide, Nat.mod_mul_right_div_self, Nat.mod_mod]
      have hr2 : (x * 64 % 4194304 + val G) % 2 ^ Q.length = val Q := by
        rw [← hr, ← hxv, Nat.mod_mod_of_dvd _ (Nat.pow_dvd_pow 2 (by omega))]
      have e : rdS x P.length us (val G) = (x * 64 % 4194304 + val G, Q.length, us ++ [v]) := by
        unfold rdS
        rw [if_pos (by omega), ← hQl, hu2]
      rw [e]
      have := ih R' (by omega) hRb.right Q hQ (by omega) V' z hQR hz (fun v hv => hV v (List.mem_cons_of_mem _ hv)) (x * 64 % 4194304 + val G) (us ++ [v]) hr2 hx3
      rw [List.append_assoc, List.singleton_append] at this
      exact this
/-- The first letter of a run is one more. -/
theorem rd_first (w rest : List UInt8) (hw : w ≠ []) (h : ∀ c, c ∈ w → ∃ v, v < 64 ∧ c = let64 v) (out : ByteArray) : rdF (some (0, 0, [], true)) out (w ++ 45 :: rest) = rdF (some (0, 0, [], false)) out (w ++ 45 :: rest) := by
  cases w with
  | nil => exact absurd rfl hw
  | cons c w =>
    obtain ⟨v, hv, rfl⟩ := h c (List.mem_cons_self ..)
    rw [List.cons_append, rdF, rdF, if_neg (let_ne v hv), if_neg (let_ne v hv)]
theorem rd_run (q : List Nat) (hq : ∀ r, r ∈ q → goodR r) (h : q ≠ []) (rest : List UInt8) (out : ByteArray) :
    rdF none out (flushQ q ++ rest) = rdF none (out ++ B (q.flatMap utf)) rest := by
  obtain ⟨m, hm⟩ := whole (uniBits (q.flatMap unitsN))
  have hl := enc6_lets (uniBits (q.flatMap unitsN)) (uniBits_bits _)
  rw [flushQ, if_neg h, List.cons_append, rdF, if_pos rfl, List.append_assoc, List.singleton_append, rd_first _ _ (enc6_ne q h) hl, enc6_pad]
  have := rd_fold rest out m _ hm ((uniBits_bits _).app (pad6_bits _)) [] (fun b hb => by cases hb) (by simp) (q.flatMap unitsN) (pad6 (encFull (uniBits (q.flatMap unitsN))).2) (by simp) (pad6_short _) (units_lt q hq) 0 [] (by simp [val]) (by decide)
  rw [List.nil_append, rlet_units q hq] at this
  exact this
theorem rd_enc : ∀ (rs : List Nat), (∀ r, r ∈ rs → goodR r) → ∀ (q : List Nat), (∀ r, r ∈ q → goodR r) → ∀ out, rdF none out (encR q rs) = some (out ++ B ((q ++ rs).flatMap utf)) := by
  intro rs
  induction rs with
  | nil =>
    intro _ q hq out
    rw [encR, List.append_nil]
    by_cases h : q = []
    · subst h
      rw [flushQ, if_pos rfl, rdF, List.flatMap_nil, bapp_nil]
    · have := rd_run q hq h [] out
      rw [List.append_nil] at this
      rw [this, rdF]
  | cons r rs ih =>
    intro hrs q hq out
    have hr1 := hrs r (List.mem_cons_self ..)
    have hr2 := fun x hx => hrs x (List.mem_cons_of_mem _ hx)
    rw [encR]
    by_cases hp : plainR r
    · rw [if_pos hp]
      have tail : ∀ out, rdF none out ((UInt8.ofNat r :: (if r = 38 then [45] else [])) ++ encR [] rs) = some (out ++ B ((r :: rs).flatMap utf)) := by
        intro out
        have i1 := ih hr2 [] (fun x hx => by cases hx)
        by_cases h38 : r = 38
        · subst h38
          have e : (UInt8.ofNat 38 :: (if 38 = 38 then [45] else [])) ++ encR [] rs = 38 :: 45 :: encR [] rs := rfl
          rw [e, rdF, if_pos rfl, rdF, if_pos rfl, if_pos rfl, i1, bapp_B, List.nil_append, List.flatMap_cons, utf38]
        · have hne : UInt8.ofNat r ≠ 38 := by
            intro e
            have := congrArg UInt8.toNat e
            unfold plainR at hp
            rw [UInt8.toNat_ofNat'] at this
            have h2 : (38 : UInt8).toNat = 38 := rfl
            rw [h2] at this
            omega
          rw [if_neg h38, List.singleton_append, rdF, if_neg hne, i1, bapp_B, List.nil_append, List.flatMap_cons, utf_plain r hp]
      rw [List.append_assoc]
      by_cases h : q = []
      · subst h
        rw [flushQ, if_pos rfl, List.nil_append, List.nil_append, tail]
      · rw [rd_run q hq h, tail, bapp_B, List.flatMap_append]
    · rw [if_neg hp, ih hr2 (q ++ [r]) (fun x hx => (List.mem_append.1 hx).elim (hq x) (fun h => by rw [List.mem_singleton.1 h]; exact hr1))]
      simp
theorem rd_encB (o : List UInt8) (hv : Lib.validD o = true) : rdF none (B []) (encB o) = some (B o) := by
  have := rd_enc (runesOf o) (runes_good o) [] (fun x hx => by cases hx) (B [])
  rw [List.nil_append, runesOf, runesL_bytes _ o (Nat.le_refl _) hv, bnil_app] at this
  exact this

/-! ### the document's Decode, walked -/
theorem digit_all : ∀ c : Fin 256, haversackref07_Digit.f 70 (c.val : Int) = some (Lib.indexByte L64 (UInt8.ofNat c.val)) := by decide +kernel
theorem digit_f (c : UInt8) : Ev (fun k => haversackref07_Digit.f k (c.toNat : Int)) (Lib.indexByte L64 c) := by
  have h := digit_all ⟨c.toNat, c.toNat_lt⟩
  have e : UInt8.ofNat c.toNat = c := by simp
  rw [show ((⟨c.toNat, c.toNat_lt⟩ : Fin 256).val) = c.toNat from rfl, e] at h
  exact ⟨70, fun k hk => at_rounds (f := fun k => haversackref07_Digit.f k (c.toNat : Int)) (fun k => haversackref07_Digit.mono _ k) hk h⟩
theorem rlet_size : ∀ (n : Nat) (us : List Nat), us.length ≤ n → (rletB us).size ≤ 4 * us.length := by
  intro n
  induction n with
  | zero =>
    intro us h
    obtain rfl : us = [] := List.eq_nil_of_length_eq_zero (by omega)
    rw [rletB, ba_size]; simp
  | succ n ih =>
    intro us h
    match us, h with
    | [], _ => rw [rletB, ba_size]; simp
    | [u], _ => rw [rletB]; exact encode_size_le _
    | u :: v :: r, h =>
      rw [rletB]
      have h1 := encode_size_le (u : Int)
      have h2 := encode_size_le ((65536 + (u - 55296) * 1024 + v - 56320 : Nat) : Int)
      have h3 := ih r (by simp at h; omega)
      have h4 := ih (v :: r) (by simp at h ⊢; omega)
      simp only [List.length_cons] at h4 ⊢
      split
      · rw [ByteArray.size_append]; omega
      · rw [ByteArray.size_append]; omega
theorem rlet_drop (us : List Nat) (i : Nat) (h : i < us.length) (hn : ¬ (55296 ≤ us[i] ∧ us[i] < 56320) ∨ ¬ (i + 1 < us.length) ∨ (∃ h2 : i + 1 < us.length, ¬ (56320 ≤ us[i + 1] ∧ us[i + 1] < 57344))) : rletB (us.drop i) = Utf8.encode (us[i] : Int) ++ rletB (us.drop (i + 1)) := by
  rw [List.drop_eq_getElem_cons h]
  by_cases h2 : i + 1 < us.length
  · rw [List.drop_eq_getElem_cons h2, rletB, if_neg]
    rintro ⟨x, y⟩
    rcases hn with hn | hn | ⟨h3, hn⟩
    · exact hn x
    · exact hn h2
    · exact hn y
  · rw [List.drop_eq_nil_iff.2 (show us.length ≤ i + 1 by omega), rletB, rletB, bapp_nil]
theorem rlet_drop2 (us : List Nat) (i : Nat) (h : i + 1 < us.length) (h1 : 55296 ≤ us[i] ∧ us[i] < 56320) (h2 : 56320 ≤ us[i + 1] ∧ us[i + 1] < 57344) : rletB (us.drop i) = Utf8.encode ((65536 + (us[i] - 55296) * 1024 + us[i + 1] - 56320 : Nat) : Int) ++ rletB (us.drop (i + 2)) := by
  rw [List.drop_eq_getElem_cons (show i < us.length by omega), List.drop_eq_getElem_cons h, rletB, if_pos ⟨h1, h2⟩]
theorem w32 {x : Int} (h : -2147483648 ≤ x ∧ x ≤ 2147483647) : wrap32 x = x := by unfold wrap32; omega
theorem pair_z (a b : Nat) (h1 : 55296 ≤ a) (h2 : a < 56320) (h3 : 56320 ≤ b) (h4 : b < 57344) :
    wrap32 (wrap64 (wrap64 (wrap64 (65536 + wrap64 (wrap64 ((a : Int) - 55296) * 1024)) + (b : Int)) - 56320)) = ((65536 + (a - 55296) * 1024 + b - 56320 : Nat) : Int) := by
  rw [w64 (x := (a : Int) - 55296) (by omega), w64 (x := ((a : Int) - 55296) * 1024) (by omega), w64 (x := 65536 + ((a : Int) - 55296) * 1024) (by omega), w64 (x := 65536 + ((a : Int) - 55296) * 1024 + (b : Int)) (by omega), w64 (x := 65536 + ((a : Int) - 55296) * 1024 + (b : Int) - 56320) (by omega), w32 (by omega)]
  omega
theorem enc_gen (z : Int) : ∃ E, Utf8.encode z = E ∧ E.size ≤ 4 := ⟨_, rfl, encode_size_le z⟩
theorem letters_l0 (us : List Nat) (hl : us.length ≤ 1000000) (hus : ∀ u, u ∈ us → u < 65536) : ∀ d i, i ≤ us.length → us.length - i ≤ d → ∀ acc : ByteArray, acc.size ≤ 4 * i →
    Ev (fun k => haversackref07_letters.l0 k (I us) acc (i : Int)) (acc ++ rletB (us.drop i)) := by
  intro d
  induction d with
  | zero =>
    intro i hi hd acc ha
    refine Ev.now fun k => ?_
    rw [haversackref07_letters.l0, List.length_map, if_neg (by omega), List.drop_eq_nil_iff.2 (by omega), rletB, bapp_nil]
  | succ d ih =>
    intro i hi hd acc ha
    by_cases hil : i < us.length
    · have hu := hus us[i] (List.getElem_mem hil)
      obtain ⟨E, hE, hs1⟩ := enc_gen (us[i] : Int)
      have one : (¬ (55296 ≤ us[i] ∧ us[i] < 56320) ∨ ¬ (i + 1 < us.length) ∨ (∃ h2 : i + 1 < us.length, ¬ (56320 ≤ us[i + 1] ∧ us[i + 1] < 57344))) → Ev (fun k => haversackref07_letters.l0 k (I us) (acc ++ E) ((i : Int) + 1)) (acc ++ rletB (us.drop i)) := by
        intro hn
        rw [rlet_drop us i hil hn, hE, ← bapp_assoc]
        exact ih (i + 1) (by omega) (by omega) _ (by rw [ByteArray.size_append]; omega)
      have two : ∀ (h2 : i + 1 < us.length), 55296 ≤ us[i] → us[i] < 56320 → 56320 ≤ us[i + 1] → us[i + 1] < 57344 → ∃ F, Utf8.encode ((65536 + (us[i] - 55296) * 1024 + us[i + 1] - 56320 : Nat) : Int) = F ∧ F.size ≤ 4 ∧ Ev (fun k => haversackref07_letters.l0 k (I us) (acc ++ F) ((i : Int) + 1 + 1)) (acc ++ rletB (us.drop i)) := by
        intro h2 c1 c2 c4 c5
        rw [rlet_drop2 us i h2 ⟨c1, c2⟩ ⟨c4, c5⟩]
        generalize ((65536 + (us[i] - 55296) * 1024 + us[i + 1] - 56320 : Nat) : Int) = Z
        obtain ⟨F, hF, hs2⟩ := enc_gen Z
        refine ⟨F, hF, hs2, ?_⟩
        rw [hF, ← bapp_assoc]
        exact ih (i + 2) (by omega) (by omega) _ (by rw [ByteArray.size_append]; omega)
      have r0 := rdI us i hil
      have r1 : ∀ (h2 : i + 1 < us.length), rd (I us) ((i : Int) + 1) = (us[i + 1] : Int) := fun h2 => rdI us (i + 1) h2
      have u1 : ∀ (h2 : i + 1 < us.length), us[i + 1] < 65536 := fun h2 => hus _ (List.getElem_mem h2)
      have pz := fun (h2 : i + 1 < us.length) => pair_z us[i] us[i + 1]
      clear ih
      generalize us[i] = a at *
      have w1 : ∀ x : Int, x = (i : Int) + 1 → wrap64 x = (i : Int) + 1 := fun x hx => by rw [hx]; exact w64 (by omega)
      by_cases c3 : i + 1 < us.length
      · replace r1 := r1 c3
        replace u1 := u1 c3
        replace two := two c3
        replace pz := pz c3
        have one' : (¬ (55296 ≤ a ∧ a < 56320) ∨ ¬ (56320 ≤ us[i + 1] ∧ us[i + 1] < 57344)) → Ev (fun k => haversackref07_letters.l0 k (I us) (acc ++ E) ((i : Int) + 1)) (acc ++ rletB (us.drop i)) := fun h => one (h.elim Or.inl (fun h => Or.inr (Or.inr ⟨c3, h⟩)))
        clear one
        generalize us[i + 1] = b at *
        by_cases c1 : 55296 ≤ a
        · by_cases c2 : a < 56320
          · by_cases c4 : 56320 ≤ b
            · by_cases c5 : b < 57344
              · obtain ⟨F, hF, hs2, nx⟩ := two c1 c2 c4 c5
                refine Ev.go (fun k => ?_) nx
                clear nx one' two
                rw [haversackref07_letters.l0, List.length_map, if_pos (by omega), if_pos (by omega), r0, if_pos (by omega), if_pos (by omega), w1 _ rfl, if_pos (by omega), if_pos (by omega), r1, if_pos (by omega), if_pos (by omega), pz c1 c2 c4 c5, hF, if_pos (by omega), w64 (by omega)]
              · refine Ev.go (fun k => ?_) (one' (Or.inr (fun x => c5 x.2)))
                clear one' two
                rw [haversackref07_letters.l0, List.length_map, if_pos (by omega), if_pos (by omega), r0, if_pos (by omega), if_pos (by omega), w1 _ rfl, if_pos (by omega), if_pos (by omega), r1, if_pos (by omega), if_neg (by omega), w32 (by omega), hE, if_pos (by omega)]
            · refine Ev.go (fun k => ?_) (one' (Or.inr (fun x => c4 x.1)))
              clear one' two
              rw [haversackref07_letters.l0, List.length_map, if_pos (by omega), if_pos (by omega), r0, if_pos (by omega), if_pos (by omega), w1 _ rfl, if_pos (by omega), if_pos (by omega), r1, if_neg (by omega), w32 (by omega), hE, if_pos (by omega)]
          · refine Ev.go (fun k => ?_) (one' (Or.inl (fun x => c2 x.2)))
            clear one' two
            rw [haversackref07_letters.l0, List.length_map, if_pos (by omega), if_pos (by omega), r0, if_pos (by omega), if_neg (by omega), w32 (by omega), hE, if_pos (by omega), w1 _ rfl]
        · refine Ev.go (fun k => ?_) (one' (Or.inl (fun x => c1 x.1)))
          clear one' two
          rw [haversackref07_letters.l0, List.length_map, if_pos (by omega), if_pos (by omega), r0, if_neg (by omega), w32 (by omega), hE, if_pos (by omega), w1 _ rfl]
      · refine Ev.go (fun k => ?_) (one (Or.inr (Or.inl c3)))
        clear one two r1 u1 pz
        by_cases c1 : 55296 ≤ a
        · by_cases c2 : a < 56320
          · rw [haversackref07_letters.l0, List.length_map, if_pos (by omega), if_pos (by omega), r0, if_pos (by omega), if_pos (by omega), w1 _ rfl, if_neg (by omega), w32 (by omega), hE, if_pos (by omega)]
          · rw [haversackref07_letters.l0, List.length_map, if_pos (by omega), if_pos (by omega), r0, if_pos (by omega), if_neg (by omega), w32 (by omega), hE, if_pos (by omega), w1 _ rfl]
        · rw [haversackref07_letters.l0, List.length_map, if_pos (by omega), if_pos (by omega), r0, if_neg (by omega), w32 (by omega), hE, if_pos (by omega), w1 _ rfl]
    · refine Ev.now fun k => ?_
      rw [haversackref07_letters.l0, List.length_map, if_neg (by omega), List.drop_eq_nil_iff.2 (by omega), rletB, bapp_nil]
theorem letters_f (us : List Nat) (hl : us.length ≤ 1000000) (hus : ∀ u, u ∈ us → u < 65536) : Ev (fun k => haversackref07_letters.f k (I us)) (rletB us) := by
  have := letters_l0 us hl hus us.length 0 (by omega) (by omega) (B []) (by rw [ba_size]; simp)
  rw [List.drop_zero, bnil_app] at this
  exact this
end Go.Proofs.YtnkibbfpmhgeaaaDoor.Pure
