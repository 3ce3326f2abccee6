/-
  Seven bits: what names.Encode and names.Decode compute, over lists of runes and of bits.
-/
import Derived.Test.YtnkibbfpmhgeaaaDoorPPx2
import Derived.Test.YtnkibbfpmhgeaaaDoorMyNamesM
import Derived.Lib.MapLaws
import Derived.Lib.ValidLaws
namespace Go.Proofs.YtnkibbfpmhgeaaaDoor.Pure
open Go.RowKit Go.Proofs.YtnkibbfpmhgeaaaDoor.PP Go.Proofs.YtnkibbfpmhgeaaaDoor.My Go.Proofs.YtnkibbfpmhgeaaaDoorW.PrintWords Go.Proofs.YtnkibbfpmhgeaaaDoorW.PrintLast
set_option linter.unusedVariables false
set_option linter.unusedSimpArgs false
abbrev B (l : List UInt8) : ByteArray := ⟨l.toArray⟩
theorem ba_drop (l : List UInt8) (i : Nat) : (B l).extract i l.length = B (l.drop i) := by
  rw [ba_cut, List.take_of_length_le (by simp)]
theorem getD_at (l : List UInt8) (i : Nat) (h : i < l.length) : l.getD i 0 = l[i] := by rw [List.getD_eq_getElem?_getD, List.getElem?_eq_getElem h]; rfl

/-! ### bits, the greatest first -/
def val (l : List Nat) : Nat := l.foldl (fun a b => 2 * a + b) 0
theorem val_from (l : List Nat) : ∀ a, l.foldl (fun a b => 2 * a + b) a = a * 2 ^ l.length + val l := by
  induction l with
  | nil => intro a; simp [val]
  | cons b l ih =>
    intro a
    have h0 : val (b :: l) = b * 2 ^ l.length + val l := by
      show l.foldl _ (2 * 0 + b) = _
      rw [ih]; simp
    rw [List.foldl_cons, ih, h0, List.length_cons, Nat.pow_succ, Nat.add_mul]
    have : 2 * a * 2 ^ l.length = a * (2 ^ l.length * 2) := by rw [Nat.mul_comm 2 a, Nat.mul_assoc, Nat.mul_comm 2]
    omega
theorem val_app (a b : List Nat) : val (a ++ b) = val a * 2 ^ b.length + val b := by
  unfold val
  rw [List.foldl_append]
  exact val_from b _
def isBits (l : List Nat) : Prop := ∀ b, b ∈ l → b < 2
theorem isBits.app {a b : List Nat} (ha : isBits a) (hb : isBits b) : isBits (a ++ b) := fun x hx => (List.mem_append.1 hx).elim (ha x) (hb x)
theorem isBits.left {a b : List Nat} (h : isBits (a ++ b)) : isBits a := fun x hx => h x (List.mem_append_left _ hx)
theorem isBits.right {a b : List Nat} (h : isBits (a ++ b)) : isBits b := fun x hx => h x (List.mem_append_right _ hx)
theorem val_lt (l : List Nat) (h : isBits l) : val l < 2 ^ l.length := by
  induction l with
  | nil => simp [val]
  | cons b l ih =>
    have h1 := h b (List.mem_cons_self ..)
    have h2 := ih (fun x hx => h x (List.mem_cons_of_mem _ hx))
    have h3 := val_app [b] l
    have h4 : val [b] = b := by simp [val]
    rw [List.singleton_append, h4] at h3
    rw [h3, List.length_cons, Nat.pow_succ]
    have : b * 2 ^ l.length ≤ 1 * 2 ^ l.length := Nat.mul_le_mul_right _ (by omega)
    omega
/-- k bits of a number. -/
def bitsN : Nat → Nat → List Nat
  | 0, _ => []
  | k + 1, v => v / 2 ^ k % 2 :: bitsN k v
theorem bitsN_len (k v : Nat) : (bitsN k v).length = k := by
  induction k with
  | zero => rfl
  | succ k ih => simp [bitsN, ih]
theorem bitsN_bits (k v : Nat) : isBits (bitsN k v) := by
  induction k with
  | zero => intro b h; cases h
  | succ k ih =>
    intro b h
    rcases List.mem_cons.1 h with rfl | h
    · exact Nat.mod_lt _ (by decide)
    · exact ih b h
theorem val_bitsN (k v : Nat) : val (bitsN k v) = v % 2 ^ k := by
  induction k with
  | zero => simp [bitsN, val]; omega
  | succ k ih =>
    have h := val_app [v / 2 ^ k % 2] (bitsN k v)
    have h4 : val [v / 2 ^ k % 2] = v / 2 ^ k % 2 := by simp [val]
    rw [List.singleton_append, h4, ih, bitsN_len] at h
    rw [bitsN, h, Nat.pow_succ, Nat.mod_mul, Nat.mul_comm]
    omega
/-- The letters of whole groups of six, and what is left. -/
def encFull : List Nat → List UInt8 × List Nat
  | a :: b :: c :: d :: e :: f :: r => (let64 (val [a, b, c, d, e, f]) :: (encFull r).1, (encFull r).2)
  | l => ([], l)
theorem encFull_short (l : List Nat) (h : l.length < 6) : encFull l = ([], l) := by
  match l, h with
  | [], _ => rfl
  | [_], _ => rfl
  | [_, _], _ => rfl
  | [_, _, _], _ => rfl
  | [_, _, _, _], _ => rfl
  | [_, _, _, _, _], _ => rfl
  | _ :: _ :: _ :: _ :: _ :: _ :: _, h => simp at h; omega
theorem six (G : List Nat) (h : G.length = 6) : ∃ a b c d e f, G = [a, b, c, d, e, f] := by
  match G, h with
  | [a, b, c, d, e, f], _ => exact ⟨a, b, c, d, e, f, rfl⟩
theorem encFull_cons (G R : List Nat) (h : G.length = 6) : encFull (G ++ R) = (let64 (val G) :: (encFull R).1, (encFull R).2) := by
  obtain ⟨a, b, c, d, e, f, rfl⟩ := six G h
  rfl
theorem split6 (l : List Nat) (h : 6 ≤ l.length) : ∃ G R, l = G ++ R ∧ G.length = 6 := ⟨l.take 6, l.drop 6, (List.take_append_drop 6 l).symm, by rw [List.length_take]; omega⟩
theorem encFull_left : ∀ n (l : List Nat), l.length ≤ n → (encFull l).2.length < 6 ∧ ∃ p, l = p ++ (encFull l).2 := by
  intro n
  induction n with
  | zero => intro l h; rw [encFull_short l (by omega)]; exact ⟨by show l.length < 6; omega, [], rfl⟩
  | succ n ih =>
    intro l h
    by_cases h6 : l.length < 6
    · rw [encFull_short l h6]; exact ⟨h6, [], rfl⟩
    · obtain ⟨G, R, rfl, hG⟩ := split6 l (by omega)
      rw [List.length_append] at h
      obtain ⟨h1, p, h2⟩ := ih R (by omega)
      rw [encFull_cons G R hG]
      exact ⟨h1, G ++ p, by rw [List.append_assoc, ← h2]⟩
theorem encFull_app : ∀ n (a b : List Nat), a.length ≤ n → encFull (a ++ b) = ((encFull a).1 ++ (encFull ((encFull a).2 ++ b)).1, (encFull ((encFull a).2 ++ b)).2) := by
  intro n
  induction n with
  | zero => intro a b h; rw [encFull_short a (by omega)]; rfl
  | succ n ih =>
    intro a b h
    by_cases h6 : a.length < 6
    · rw [encFull_short a h6]; rfl
    · obtain ⟨G, R, rfl, hG⟩ := split6 a (by omega)
      rw [List.length_append] at h
      rw [List.append_assoc, encFull_cons G _ hG, encFull_cons G R hG, ih R b (by omega)]
      rfl
def pad6 (l : List Nat) : List Nat := if l = [] then [] else List.replicate (6 - l.length) 0
/-- All letters: what is left is filled with noughts. -/
def enc6 (l : List Nat) : List UInt8 := (encFull l).1 ++ (if (encFull l).2 = [] then [] else [let64 (val ((encFull l).2 ++ pad6 (encFull l).2))])
theorem enc6_pad (l : List Nat) : enc6 l = (encFull (l ++ pad6 (encFull l).2)).1 := by
  have hl := (encFull_left l.length l (Nat.le_refl _)).1
  rw [encFull_app l.length l _ (Nat.le_refl _)]
  unfold enc6
  by_cases h : (encFull l).2 = []
  · rw [if_pos h, h]; rfl
  · rw [if_neg h]
    have hp : ((encFull l).2 ++ pad6 (encFull l).2).length = 6 := by
      unfold pad6
      rw [if_neg h, List.length_append, List.length_replicate]; omega
    have := encFull_cons ((encFull l).2 ++ pad6 (encFull l).2) [] hp
    rw [List.append_nil] at this
    rw [this]; rfl

/-! ### names.Encode's steps -/
theorem or_add (x u : Nat) (hu : u < 65536) : (x * 65536) ||| u = x * 65536 + u := by
  have := Nat.two_pow_add_eq_or_of_lt (i := 16) (b := u) hu x
  rw [Nat.mul_comm]; exact this.symm
theorem or_add6 (x u : Nat) (hu : u < 64) : (x * 64) ||| u = x * 64 + u := by
  have := Nat.two_pow_add_eq_or_of_lt (i := 6) (b := u) hu x
  rw [Nat.mul_comm]; exact this.symm
theorem div_val (A G R : List Nat) (hR : isBits R) (hG : isBits G) (h6 : G.length = 6) : val (A ++ (G ++ R)) / 2 ^ ((G ++ R).length - 6) % 64 = val G := by
  rw [← List.append_assoc, val_app, List.length_append, h6, Nat.add_sub_cancel_left]
  have h1 := val_lt R hR
  have h2 := val_lt G hG
  rw [h6] at h2
  rw [Nat.add_comm, Nat.mul_comm, Nat.add_mul_div_left _ _ (Nat.two_pow_pos _), Nat.div_eq_of_lt h1, Nat.zero_add, val_app, h6, Nat.add_comm, Nat.add_mul_mod_self_right, Nat.mod_eq_of_lt h2]
theorem emit_is : ∀ (k : Nat) (bs : List UInt8) (A R : List Nat), isBits R → R.length < 6 * (k + 1) → emitL k bs (val (A ++ R)) R.length = (bs ++ (encFull R).1, (encFull R).2.length) := by
  intro k
  induction k with
  | zero =>
    intro bs A R hR h
    rw [encFull_short R (by omega)]
    simp [emitL]
  | succ k ih =>
    intro bs A R hR h
    rw [emitL]
    by_cases h6 : 6 ≤ R.length
    · obtain ⟨G, R', rfl, hG⟩ := split6 R h6
      rw [if_pos h6, div_val A G R' hR.right hR.left hG, encFull_cons G R' hG]
      rw [List.length_append] at h ⊢
      have := ih (bs ++ [let64 (val G)]) (A ++ G) R' hR.right (by omega)
      rw [hG, Nat.add_sub_cancel_left]
      rw [List.append_assoc] at this
      rw [this]
      simp
    · rw [if_neg h6, encFull_short R (by omega)]
      simp
theorem unit_is (bs : List UInt8) (P : List Nat) (u : Nat) (hP : isBits P) (hPl : P.length < 6) (hu : u < 65536) :
    unitL (bs, val P, P.length) u = (bs ++ (encFull (P ++ bitsN 16 u)).1, val (encFull (P ++ bitsN 16 u)).2, (encFull (P ++ bitsN 16 u)).2.length) := by
  have hv := val_lt P hP
  have hv2 : val P < 64 := Nat.lt_of_lt_of_le hv (Nat.le_trans (Nat.pow_le_pow_right (by decide) (show P.length ≤ 6 by omega)) (by decide))
  have hx : (val P * 65536 % 4294967296 ||| u) = val (P ++ bitsN 16 u) := by
    rw [Nat.mod_eq_of_lt (by omega), or_add _ _ hu, val_app, bitsN_len, val_bitsN, Nat.mod_eq_of_lt (show u < 2 ^ 16 from hu)]
  have hb : isBits (P ++ bitsN 16 u) := hP.app (bitsN_bits 16 u)
  have hlen : P.length + 16 = (P ++ bitsN 16 u).length := by rw [List.length_append, bitsN_len]
  have he := emit_is 10 bs [] (P ++ bitsN 16 u) hb (by rw [List.length_append, bitsN_len]; omega)
  rw [List.nil_append] at he
  unfold unitL
  simp only [hx, hlen, he]
  obtain ⟨_, p, hp⟩ := encFull_left _ (P ++ bitsN 16 u) (Nat.le_refl _)
  have hl : val (P ++ bitsN 16 u) % 2 ^ (encFull (P ++ bitsN 16 u)).2.length = val (encFull (P ++ bitsN 16 u)).2 := by
    generalize (encFull (P ++ bitsN 16 u)).2 = L at hp
    rw [hp, val_app, Nat.add_comm, Nat.add_mul_mod_self_right, Nat.mod_eq_of_lt]
    exact val_lt L (by rw [hp] at hb; exact hb.right)
  rw [hl]
/-- The units of a rune. -/
def unitsN (r : Nat) : List Nat := if 65536 ≤ r then [55296 + (r - 65536) / 1024, 56320 + (r - 65536) % 1024] else [r]
def uniBits (us : List Nat) : List Nat := us.flatMap (bitsN 16)
theorem uniBits_bits (us : List Nat) : isBits (uniBits us) := by
  intro b hb
  obtain ⟨u, _, h⟩ := List.mem_flatMap.1 hb
  exact bitsN_bits 16 u b h
theorem uniBits_app (a b : List Nat) : uniBits (a ++ b) = uniBits a ++ uniBits b := List.flatMap_append
/-- The state of a run: the bits so far, beneath a beginning. -/
def runSt (base : List UInt8) (T : List Nat) : List UInt8 × Nat × Nat := (base ++ (encFull T).1, val (encFull T).2, (encFull T).2.length)
theorem runSt_unit (base : List UInt8) (T : List Nat) (hT : isBits T) (u : Nat) (hu : u < 65536) : unitL (runSt base T) u = runSt base (T ++ bitsN 16 u) := by
  obtain ⟨h6, p, hp⟩ := encFull_left T.length T (Nat.le_refl _)
  have hb : isBits (encFull T).2 := by rw [hp] at hT; exact hT.right
  unfold runSt
  rw [unit_is _ _ u hb h6 hu, encFull_app T.length T _ (Nat.le_refl _)]
  simp
theorem runSt_let (base : List UInt8) (T : List Nat) (hT : isBits T) (r : Nat) (hr : r ≤ 1114111) : letL (runSt base T) r = runSt base (T ++ uniBits (unitsN r)) := by
  unfold letL unitsN
  split
  · rename_i h
    rw [runSt_unit _ _ hT _ (by omega), runSt_unit _ _ (hT.app (bitsN_bits _ _)) _ (by omega)]
    simp [uniBits]
  · rw [runSt_unit _ _ hT _ (by omega)]
    simp [uniBits]
theorem endL_is (base : List UInt8) (T : List Nat) (hT : isBits T) : endL (runSt base T) = base ++ enc6 T ++ [45] := by
  obtain ⟨h6, p, hp⟩ := encFull_left T.length T (Nat.le_refl _)
  have hb : isBits (encFull T).2 := by rw [hp] at hT; exact hT.right
  unfold endL runSt enc6
  generalize (encFull T).1 = F at *
  generalize (encFull T).2 = L at *
  simp only
  by_cases h : L = []
  · subst h; simp
  · have hlen : 0 < L.length := List.length_pos_iff.2 h
    have hv := val_lt L hb
    have hpad : val (L ++ pad6 L) = val L * 2 ^ (6 - L.length) := by
      unfold pad6
      rw [if_neg h, val_app, List.length_replicate]
      have : ∀ n, val (List.replicate n 0) = 0 := by
        intro n
        induction n with
        | zero => rfl
        | succ n ih =>
          have h3 := val_app [0] (List.replicate n 0)
          rw [List.singleton_append] at h3
          rw [List.replicate_succ, h3, ih]; simp [val]
      rw [this]; omega
    have hlt : val L * 2 ^ (6 - L.length) < 64 := by
      have : val L * 2 ^ (6 - L.length) < 2 ^ L.length * 2 ^ (6 - L.length) := Nat.mul_lt_mul_of_pos_right hv (Nat.two_pow_pos _)
      rw [← Nat.pow_add, show L.length + (6 - L.length) = 6 by omega] at this
      exact this
    rw [if_pos hlen, if_neg h, hpad, Nat.mod_eq_of_lt (show val L * 2 ^ (6 - L.length) < 4294967296 by omega), Nat.mod_eq_of_lt hlt]
    simp

/-! ### a text in seven bits -/
def plainR (r : Nat) : Prop := 32 ≤ r ∧ r ≤ 126
instance (r : Nat) : Decidable (plainR r) := inferInstanceAs (Decidable (_ ∧ _))
/-- The runes that wait, as a run. -/
def flushQ (q : List Nat) : List UInt8 := if q = [] then [] else 38 :: (enc6 (uniBits (q.flatMap unitsN)) ++ [45])
def encR : List Nat → List Nat → List UInt8
  | q, [] => flushQ q
  | q, r :: rs => if plainR r then flushQ q ++ (UInt8.ofNat r :: (if r = 38 then [45] else [])) ++ encR [] rs else encR (q ++ [r]) rs
theorem enc_fold : ∀ (rs : List Nat), (∀ r, r ∈ rs → r ≤ 1114111) → ∀ (out : List UInt8) (q : List Nat),
    (let s := rs.foldl stepE (if q = [] then ((out, 0, 0), false) else (runSt (out ++ [38]) (uniBits (q.flatMap unitsN)), true)); if s.2 then endL s.1 else s.1.1) = out ++ encR q rs := by
  intro rs
  induction rs with
  | nil =>
    intro _ out q
    by_cases h : q = []
    · subst h; simp [encR, flushQ]
    · rw [if_neg h]
      simp only [List.foldl_nil, if_true, encR]
      rw [endL_is _ _ (uniBits_bits _), flushQ, if_neg h]
      simp
  | cons r rs ih =>
    intro hr out q
    have hr1 := hr r (List.mem_cons_self ..)
    have hr2 := fun x hx => hr x (List.mem_cons_of_mem _ hx)
    rw [List.foldl_cons, encR]
    by_cases hp : plainR r
    · rw [if_pos hp]
      have h1 : stepE (if q = [] then ((out, 0, 0), false) else (runSt (out ++ [38]) (uniBits (q.flatMap unitsN)), true)) r = ((out ++ (flushQ q ++ (UInt8.ofNat r :: (if r = 38 then [45] else []))), 0, 0), false) := by
        unfold stepE
        rw [if_pos (show 32 ≤ r ∧ r ≤ 126 from hp)]
        by_cases h : q = []
        · subst h
          simp only [if_true, flushQ]
          split <;> simp
        · rw [if_neg h]
          simp only [if_true]
          rw [endL_is _ _ (uniBits_bits _), flushQ, if_neg h]
          split <;> simp
      rw [h1]
      have := ih hr2 (out ++ (flushQ q ++ (UInt8.ofNat r :: (if r = 38 then [45] else [])))) []
      rw [if_pos rfl] at this
      rw [this]; simp
    · rw [if_neg hp]
      have h1 : stepE (if q = [] then ((out, 0, 0), false) else (runSt (out ++ [38]) (uniBits (q.flatMap unitsN)), true)) r = (runSt (out ++ [38]) (uniBits ((q ++ [r]).flatMap unitsN)), true) := by
        unfold stepE
        rw [if_neg (show ¬ (32 ≤ r ∧ r ≤ 126) from hp)]
        have e : uniBits ((q ++ [r]).flatMap unitsN) = uniBits (q.flatMap unitsN) ++ uniBits (unitsN r) := by
          rw [List.flatMap_append, uniBits_app]; simp
        rw [e, ← runSt_let _ _ (uniBits_bits _) r hr1]
        by_cases h : q = []
        · subst h; simp [runSt, uniBits, encFull, val]
        · rw [if_neg h]; simp
      rw [h1]
      have := ih hr2 out (q ++ [r])
      rw [if_neg (show ¬ (q ++ [r] = []) by simp)] at this
      exact this
theorem encL_is (rs : List Nat) (h : ∀ r, r ∈ rs → r ≤ 1114111) : encL rs = encR [] rs := by
  have := enc_fold rs h [] []
  rw [if_pos rfl] at this
  exact this

/-! ### the runes of a text -/
def goodR (r : Nat) : Prop := r < 55296 ∨ (57344 ≤ r ∧ r ≤ 1114111)
theorem decodeN_good (n b0 b1 b2 b3 : Nat) : goodR (Lib.decodeN n b0 b1 b2 b3).1 ∧ 1 ≤ (Lib.decodeN n b0 b1 b2 b3).2 := by
  unfold goodR
  rcases Lib.decodeN_shape n b0 b1 b2 b3 with ⟨c, e⟩ | ⟨c1, c2, c3, cv, e⟩ | ⟨c1, c2, c3, c4, cv, cs, e⟩ | ⟨c1, c2, c3, c4, c5, cv, cw, e⟩ | e
  all_goals (rw [e]; dsimp only; omega)
theorem getB (l : List UInt8) (i : Nat) : (B l).get! i = l.getD i 0 := by
  show (l.toArray)[i]! = _
  by_cases h : i < l.length
  · rw [getElem!_pos _ _ (by simpa using h), getD_at l i h]; simp
  · rw [getElem!_neg _ _ (by simpa using h), List.getD_eq_getElem?_getD, List.getElem?_eq_none (by omega)]; rfl
theorem decode_drop (l : List UInt8) (i : Nat) : Utf8.decode (B l) i = Lib.decodeL (l.drop i) := by
  unfold Lib.decodeL
  rw [Lib.decode_at, Lib.decode_at, ba_size, getB, getB, getB, getB, getB, getB, getB, getB, ba_size]
  have e : ∀ j, (l.drop i).getD j 0 = l.getD (i + j) 0 := fun j => by simp [List.getD_eq_getElem?_getD]
  rw [e, e, e, e, List.length_drop]
  simp
/-- The runes of a text, by lists. -/
def runesL : Nat → List UInt8 → List Nat
  | 0, _ => []
  | k + 1, l => if l = [] then [] else (Lib.decodeL l).1 :: runesL k (l.drop (Lib.decodeL l).2)
theorem runesF_is (l : List UInt8) : ∀ k pos, pos ≤ l.length → runesF (B l) k pos = runesL k (l.drop pos) := by
  intro k
  induction k with
  | zero => intro pos _; rfl
  | succ k ih =>
    intro pos hp
    have hw := Lib.decodeL_width (l.drop pos)
    rw [runesF, runesL, ba_size]
    by_cases h : pos < l.length
    · have hne : l.drop pos ≠ [] := fun e => by have := List.drop_eq_nil_iff.1 e; omega
      have hl : 0 < (l.drop pos).length := List.length_pos_iff.2 hne
      rw [if_pos h, if_neg hne, decode_drop, List.drop_drop]
      rw [List.length_drop] at hl
      by_cases hq : pos + (Lib.decodeL (l.drop pos)).2 ≤ l.length
      · rw [ih _ hq]
      · congr 1
        have hd : l.drop (pos + (Lib.decodeL (l.drop pos)).2) = [] := List.drop_eq_nil_iff.2 (by omega)
        rw [hd]
        cases k with
        | zero => rfl
        | succ k => rw [runesF, if_neg (by rw [ba_size]; omega)]; rfl
    · rw [if_neg h, if_pos (List.drop_eq_nil_iff.2 (by omega))]
theorem runesL_good : ∀ k l, ∀ r, r ∈ runesL k l → goodR r := by
  intro k
  induction k with
  | zero => intro l r h; cases h
  | succ k ih =>
    intro l r h
    rw [runesL] at h
    split at h
    · cases h
    · rcases List.mem_cons.1 h with rfl | h
      · rw [Lib.decodeL_N]; exact (decodeN_good _ _ _ _ _).1
      · exact ih _ r h
theorem good_le {r : Nat} (h : goodR r) : r ≤ 1114111 := by unfold goodR at h; omega
/-- A rune's bytes. -/
theorem valid_of (n : Nat) (h : goodR n) : Utf8.valid (n : Int) = true := by
  unfold goodR at h
  unfold Utf8.valid
  simp
  omega
def utf (c : Nat) : List UInt8 :=
  if c < 128 then [UInt8.ofNat c]
  else if c < 2048 then [UInt8.ofNat (192 + c / 64), UInt8.ofNat (128 + c % 64)]
  else if c < 65536 then [UInt8.ofNat (224 + c / 4096), UInt8.ofNat (128 + c / 64 % 64), UInt8.ofNat (128 + c % 64)]
  else [UInt8.ofNat (240 + c / 262144), UInt8.ofNat (128 + c / 4096 % 64), UInt8.ofNat (128 + c / 64 % 64), UInt8.ofNat (128 + c % 64)]
theorem encN (n : Nat) (h : goodR n) : Utf8.encode (n : Int) = B (utf n) := by
  unfold Utf8.encode utf
  rw [valid_of n h]
  generalize hr : (n : Int).toNat = m
  rw [Int.toNat_natCast] at hr
  subst hr
  simp only [if_true]
  split
  · rfl
  · split
    · rfl
    · split <;> rfl
theorem utf_decode (l : List UInt8) (hne : l ≠ []) (hv : ¬ ((Lib.decodeL l).1 = 65533 ∧ (Lib.decodeL l).2 = 1)) : utf (Lib.decodeL l).1 = l.take (Lib.decodeL l).2 := by
  have hl : 0 < l.length := List.length_pos_iff.2 hne
  rw [Lib.decodeL_N] at hv ⊢
  have k0 := (l.getD 0 0).toNat_lt
  have k1 := (l.getD 1 0).toNat_lt
  have k2 := (l.getD 2 0).toNat_lt
  have k3 := (l.getD 3 0).toNat_lt
  have tb : ∀ (n : Nat) (x : UInt8), n = x.toNat → UInt8.ofNat n = x := fun n x h => by subst h; simp
  rcases Lib.decodeN_shape l.length (l.getD 0 0).toNat (l.getD 1 0).toNat (l.getD 2 0).toNat (l.getD 3 0).toNat with ⟨c, e⟩ | ⟨c1, c2, c3, cv, e⟩ | ⟨c1, c2, c3, c4, cv, cs, e⟩ | ⟨c1, c2, c3, c4, c5, cv, cw, e⟩ | e
  · rw [e]
    dsimp only
    unfold utf
    rw [if_pos (by omega), Lib.takeA l hl, tb _ _ rfl]
  · rw [e]
    dsimp only
    unfold utf
    rw [if_neg (by omega), if_pos (by omega), Lib.takeB l c2, tb _ (l.getD 0 0) (by omega), tb _ (l.getD 1 0) (by omega)]
  · rw [e]
    dsimp only
    unfold utf
    rw [if_neg (by omega), if_neg (by omega), if_pos (by omega), Lib.takeC l c2, tb _ (l.getD 0 0) (by omega), tb _ (l.getD 1 0) (by omega), tb _ (l.getD 2 0) (by omega)]
  · rw [e]
    dsimp only
    unfold utf
    rw [if_neg (by omega), if_neg (by omega), if_neg (by omega), Lib.takeD l c2, tb _ (l.getD 0 0) (by omega), tb _ (l.getD 1 0) (by omega), tb _ (l.getD 2 0) (by omega), tb _ (l.getD 3 0) (by omega)]
  · rw [e] at hv
    simp at hv
theorem runesL_bytes : ∀ k l, l.length ≤ k → Lib.validD l = true → (runesL k l).flatMap utf = l := by
  intro k
  induction k with
  | zero =>
    intro l h _
    obtain rfl : l = [] := List.eq_nil_of_length_eq_zero (by omega)
    rfl
  | succ k ih =>
    intro l h hv
    rw [runesL]
    by_cases hne : l = []
    · rw [if_pos hne, hne]; rfl
    · rw [Lib.validD_step l hne] at hv
      split at hv
      · cases hv
      · rename_i hnb
        have hw := Lib.decodeL_width l
        have hl : 0 < l.length := List.length_pos_iff.2 hne
        rw [if_neg hne, List.flatMap_cons, utf_decode l hne hnb, ih _ (by rw [List.length_drop]; omega) hv, List.take_append_drop]
theorem utf_plain (r : Nat) (h : plainR r) : utf r = [UInt8.ofNat r] := by
  unfold plainR at h
  rw [utf, if_pos (by omega)]
def runesOf (l : List UInt8) : List Nat := runesL l.length l
def encB (l : List UInt8) : List UInt8 := encR [] (runesOf l)
theorem names_encode_f (l : List UInt8) (h : l.length ≤ 100000000) : names_Encode.f (B l) = if Lib.validD l then some (B (encB l), 0) else some (B [], 11) := by
  unfold names_Encode.f
  rw [ba_size, if_pos h, runesF_is l _ 0 (by omega), List.drop_zero, encL_is _ (fun r hr => good_le (runesL_good _ _ r hr))]
  rfl
end Go.Proofs.YtnkibbfpmhgeaaaDoor.Pure
