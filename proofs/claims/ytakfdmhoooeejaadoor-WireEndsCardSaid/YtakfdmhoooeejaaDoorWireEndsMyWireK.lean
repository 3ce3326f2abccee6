/- YtakfdmhoooeejaaDoorMyWireK, as far as WireEnds needs it (prune.py). -/
import Derived.Test.YtakfdmhoooeejaaDoorWireEndsMyWireG
import Derived.Lib.ItoaNum
namespace Go.Proofs.YtakfdmhoooeejaaDoor.PP
open Go.RowKit Go.Proofs.YtakfdmhoooeejaaDoorW.PrintWords Go.Proofs.YtakfdmhoooeejaaDoorW.PrintLast Go.Proofs.YtakfdmhoooeejaaDoorW.PrintMore
open Go.Proofs.YtakfdmhoooeejaaDoor.My
set_option linter.unusedVariables false
set_option linter.unusedSimpArgs false
theorem take_line : ∀ (t : List UInt8) (s : FS), s.md = .line → (∀ c ∈ t, c ≠ 10) → s.size + (s.line.length + t.length) ≤ 4000 → takeS s t = ({ s with line := s.line ++ t }, [])
  | [], s, _, _, _ => by simp [takeS]
  | c :: t, s, hm, hc, hn => by
    have hn' : s.size + (s.line.length + (t.length + 1)) ≤ 4000 := by simpa using hn
    have h1 : stepS s c = ({ s with line := s.line ++ [c] }, []) := by
      unfold stepS
      rw [hm]
      simp only
      unfold inLineS
      rw [if_neg (hc c (List.mem_cons_self ..)), if_pos (by split <;> omega)]
      simp [hm]
    have h2 := take_line t { s with line := s.line ++ [c] } hm (fun x hx => hc x (List.mem_cons_of_mem _ hx)) (by simp only [List.length_append, List.length_cons, List.length_nil]; omega)
    simp only [takeS, h1, h2]
    simp [List.append_assoc]
theorem take_lit : ∀ (l : List UInt8) (s : FS), s.md = .lit → l ≠ [] → s.left = l.length → takeS s l = ({ s with lits := s.lits ++ [str (s.line ++ l)], line := [], left := 0, md := .line }, [])
  | [], s, _, h, _ => absurd rfl h
  | [c], s, hm, _, hl => by
    have hl1 : s.left = 1 := by simpa using hl
    simp [takeS, stepS, hm, inLitS, endedS, hl1]
  | c :: d :: l, s, hm, _, hl => by
    have hl' : s.left = l.length + 1 + 1 := by simpa using hl
    have h1 : stepS s c = ({ s with line := s.line ++ [c], left := s.left - 1 }, []) := by
      unfold stepS
      rw [hm]
      simp only
      unfold inLitS endedS
      rw [if_neg (by simp only; omega)]
      simp [hm]
    have h2 := take_lit (d :: l) { s with line := s.line ++ [c], left := s.left - 1 } hm (by simp) (by simp only [List.length_cons]; omega)
    rw [takeS, h1, h2]
    simp [List.append_assoc]
theorem decFrom_snoc : ∀ (d : List UInt8) (acc m : Nat) (c : UInt8) (k : Nat), Lib.decFrom acc d = some m → Lib.digitVal c = some k → Lib.decFrom acc (d ++ [c]) = some (m * 10 + k)
  | [], acc, m, c, k, h, hk => by
    rw [Lib.decFrom] at h
    injection h with h
    subst h
    simp [Lib.decFrom, hk]
  | a :: d, acc, m, c, k, h, hk => by
    rw [Lib.decFrom] at h
    rw [List.cons_append, Lib.decFrom]
    cases ha : Lib.digitVal a with
    | none => rw [ha] at h; cases h
    | some e =>
      rw [ha] at h
      exact decFrom_snoc d _ m c k h hk
theorem digit_ofNat {i : Nat} (h : i < 10) : Lib.digitVal (UInt8.ofNat (48 + i)) = some i ∧ UInt8.ofNat (48 + i) ∈ digs := by
  have hall : ∀ i : Fin 10, Lib.digitVal (UInt8.ofNat (48 + i.val)) = some i.val ∧ UInt8.ofNat (48 + i.val) ∈ digs := by decide
  exact hall ⟨i, h⟩
theorem decDigits_val (u : Nat) : Lib.decFrom 0 (Lib.decDigits u) = some u ∧ (∀ c ∈ Lib.decDigits u, c ∈ digs) ∧ Lib.decDigits u ≠ [] := by
  induction u using Nat.strongRecOn with
  | _ u ih =>
    rw [Lib.decDigits]
    by_cases h : u < 10
    · rw [dif_pos h]
      obtain ⟨h1, h2⟩ := digit_ofNat h
      refine ⟨by rw [Lib.decFrom, h1]; simp [Lib.decFrom], fun c hc => by rw [List.mem_singleton.1 hc]; exact h2, by simp⟩
    · rw [dif_neg h]
      obtain ⟨i1, i2, i3⟩ := ih (u / 10) (by omega)
      obtain ⟨h1, h2⟩ := digit_ofNat (show u % 10 < 10 by omega)
      refine ⟨?_, fun c hc => ?_, by simp⟩
      · rw [decFrom_snoc _ 0 _ _ _ i1 h1]
        congr 1; omega
      · rcases List.mem_append.1 hc with hc | hc
        · exact i2 c hc
        · rw [List.mem_singleton.1 hc]; exact h2
theorem decDigits_len : ∀ (k u : Nat), u < 10 ^ (k + 1) → (Lib.decDigits u).length ≤ k + 1
  | 0, u, h => by rw [Lib.decDigits, dif_pos (by simpa using h)]; simp
  | k + 1, u, h => by
    rw [Lib.decDigits]
    split
    · simp
    · have := decDigits_len k (u / 10) (by rw [Nat.pow_succ] at h; omega)
      simp; omega
theorem dig_ne {c : UInt8} (h : c ∈ digs) : c ≠ 45 ∧ c ≠ 43 ∧ c ≠ 123 ∧ c ≠ 125 ∧ c ≠ 10 ∧ c ≠ 13 := by
  simp only [digs, List.mem_cons, List.mem_nil_iff, or_false] at h
  rcases h with rfl | rfl | rfl | rfl | rfl | rfl | rfl | rfl | rfl | rfl <;> decide
theorem atoi_dec (u : Nat) : Lib.atoi (Lib.decDigits u) = some (u : Int) := by
  obtain ⟨h1, h2, h3⟩ := decDigits_val u
  cases hd : Lib.decDigits u with
  | nil => exact absurd hd h3
  | cons c d =>
    rw [hd] at h1 h2
    have hc := dig_ne (h2 c (List.mem_cons_self ..))
    rw [Lib.atoi, if_neg (by simpa using hc.1), if_neg (by simpa using hc.2.1)]
    simp [Lib.decNat, h1]
theorem lastByte_at (a b : List UInt8) (c : UInt8) (hb : c ∉ b) : Lib.lastIndexByte (str (a ++ c :: b)) c.toNat = a.length := by
  have hs := Lib.lastIndexByte_spec (str (a ++ c :: b)) c.toNat
  have hsz : (str (a ++ c :: b)).size = a.length + (b.length + 1) := by rw [str_size]; simp
  have hat : ∀ j, j < a.length + (b.length + 1) → (str (a ++ c :: b)).data[j]! = (a ++ c :: b).getD j 0 := fun j hj => by
    show (a ++ c :: b).toArray[j]! = _
    rw [getElem!_pos _ j (by simpa using hj)]
    simp [List.getD_eq_getElem?_getD, List.getElem?_eq_getElem (show j < (a ++ c :: b).length by simpa using hj)]
  rw [hsz] at hs
  have hca : (str (a ++ c :: b)).data[a.length]! = c := by rw [hat _ (by omega)]; simp [List.getD_eq_getElem?_getD]
  rcases hs with ⟨_, h⟩ | ⟨i, hi, he, hc, hn⟩
  · exact absurd (by rw [hca]) (h a.length (by omega))
  · rw [he]
    rcases Nat.lt_trichotomy i a.length with h | h | h
    · exact absurd (by rw [hca]) (hn a.length h (by omega))
    · omega
    · exfalso
      rw [hat i hi, List.getD_eq_getElem?_getD, List.getElem?_append_right (by omega)] at hc
      have : i - a.length = (i - a.length - 1) + 1 := by omega
      rw [this, List.getElem?_cons_succ, List.getElem?_eq_getElem (by omega), Option.getD_some] at hc
      have h2 : b[i - a.length - 1]'(by omega) = c := by
        apply UInt8.toNat_inj.1; omega
      exact hb (h2 ▸ List.getElem_mem _)
theorem dropNone {p : UInt8 → Bool} : ∀ (l : List UInt8), (∀ c ∈ l, p c = true) → l.dropWhile p = []
  | [], _ => rfl
  | c :: l, h => by
    rw [List.dropWhile_cons, if_pos (h c (List.mem_cons_self ..))]
    exact dropNone l (fun x hx => h x (List.mem_cons_of_mem _ hx))
theorem trim_digs {d : List UInt8} (h : ∀ c ∈ d, c ∈ digs) : Lib.trimS d digs = [] := by
  unfold Lib.trimS Lib.trimLeftS Lib.trimRightS
  have h1 : d.reverse.dropWhile (digs.contains ·) = [] := by
    refine dropNone _ (fun c hc => ?_)
    simpa using h c (by simpa using hc)
  rw [h1]; rfl
theorem hasS_last (l : List UInt8) (c : UInt8) : Lib.hasSuffix (l ++ [c]) [c] = true := by rw [hasS_one]; simp
theorem trimS_last (l : List UInt8) (c : UInt8) : Lib.trimSuffix (l ++ [c]) [c] = l := by
  unfold Lib.trimSuffix
  rw [hasS_last]
  simp
/-- The mark that a client writes that goes on by itself. -/
def mk (n : Nat) : List UInt8 := 123 :: (Lib.decDigits n ++ [43, 125])
theorem markS_mk (t : List UInt8) (n : Nat) (hn : n ≤ 999999) : markS (t ++ mk n) = some (t, (n : Int), true) := by
  obtain ⟨h1, h2, h3⟩ := decDigits_val n
  have h6 : (Lib.decDigits n).length ≤ 6 := decDigits_len 5 n (by omega)
  have hL := atoi_dec n
  unfold mk
  generalize Lib.decDigits n = d at h1 h2 h3 h6 hL
  have hlast : Lib.lastIndexByte (str (t ++ 123 :: (d ++ [43, 125]))) 123 = t.length :=
    lastByte_at t (d ++ [43, 125]) 123 (by
      intro hm
      rcases List.mem_append.1 hm with hm | hm
      · exact (dig_ne (h2 _ hm)).2.2.1 rfl
      · revert hm; decide)
  have hD : markD (t ++ 123 :: (d ++ [43, 125])) = d ++ [43] := by
    unfold markD
    rw [hlast]
    have e1 : t ++ 123 :: (d ++ [43, 125]) = (t ++ 123 :: (d ++ [43])) ++ [125] := by simp
    rw [e1, List.length_append, List.length_singleton, Nat.add_sub_cancel, List.take_left, show ((t.length : Int).toNat + 1) = t.length + 1 by omega]
    rw [show t ++ 123 :: (d ++ [43]) = (t ++ [123]) ++ (d ++ [43]) by simp, List.drop_left' (by simp)]
  have hs : Lib.hasSuffix (t ++ 123 :: (d ++ [43, 125])) [125] = true := by
    have e1 : t ++ 123 :: (d ++ [43, 125]) = (t ++ 123 :: (d ++ [43])) ++ [125] := by simp
    rw [e1]; exact hasS_last _ _
  unfold markS
  rw [if_pos hs, hlast, if_neg (by omega), hD, trimS_last, hasS_last, if_neg (by
    rintro (h | h | h)
    · exact h3 h
    · omega
    · exact h (trim_digs h2)), hL]
  rw [show (t.length : Int).toNat = t.length by omega, List.take_left]
  rfl
def lbytes (b : ByteArray) : List UInt8 := b.data.toList
theorem str_lbytes (b : ByteArray) : str (lbytes b) = b := rfl
/-- The bytes of a command: each text with its mark and literal; then the last text. -/
def rawL : List ByteArray → List ByteArray → List UInt8
  | t :: ts, l :: ls => lbytes t ++ mk l.size ++ [13, 10] ++ lbytes l ++ rawL ts ls
  | t :: _, [] => lbytes t ++ [13, 10]
  | [], _ => []
def plainT (t : ByteArray) : Prop := (∀ c ∈ lbytes t, c ≠ 10) ∧ markS (lbytes t) = none
def szs (ts : List ByteArray) : Nat := (ts.map ByteArray.size).sum
theorem lbytes_len (b : ByteArray) : (lbytes b).length = b.size := rfl
theorem take_end (s : FS) (hm : s.md = .line) (l : List UInt8) (hl : s.line = l ++ [13]) : takeS s [10] = endLineS s l := by
  simp only [takeS, stepS, hm, inLineS, if_true, hl, trimS_same]
  simp
theorem take_raw : ∀ (ts ls : List ByteArray) (T L : List ByteArray) (sz : Int), ts.length = ls.length + 1 → (∀ t ∈ ts, plainT t) → (∀ l ∈ ls, l.size ≤ 50000) → L.length + ls.length ≤ 20 → 0 ≤ sz → sz + 8 * ls.length + szs ts + 1 ≤ 4001 →
    takeS ⟨T, L, [], sz, .line, 0, false⟩ (rawL ts ls) = (fs0, [evt 1 (T ++ ts) (L ++ ls)])
  | [], ls, T, L, sz, h, _, _, _, _, _ => by simp at h
  | [t], [], T, L, sz, h, hp, hl, hL, h0, hz => by
    have hpt := hp t (by simp)
    have hz' : sz + t.size ≤ 4000 := by simp [szs] at hz; omega
    rw [show rawL [t] [] = lbytes t ++ ([13] ++ [10]) from rfl, takeS_app, take_line (lbytes t) _ rfl hpt.1 (by simp only [List.length_nil, lbytes_len]; omega)]
    simp only [List.nil_append]
    have h13 : stepS ⟨T, L, lbytes t, sz, .line, 0, false⟩ 13 = (⟨T, L, lbytes t ++ [13], sz, .line, 0, false⟩, []) := by
      simp only [stepS, inLineS]
      rw [if_neg (by decide), if_pos (by simp only [lbytes_len, if_true]; omega)]
    rw [takeS_app, show takeS ⟨T, L, lbytes t, sz, .line, 0, false⟩ [13] = (⟨T, L, lbytes t ++ [13], sz, .line, 0, false⟩, []) by simp [takeS, h13], take_end _ rfl _ rfl]
    unfold endLineS
    rw [hpt.2]
    simp [beginS, fs0, str_lbytes]
  | t :: u :: ts, [], T, L, sz, h, _, _, _, _, _ => by simp at h
  | t :: ts, l :: ls, T, L, sz, h, hp, hl, hL, h0, hz => by
    have hpt := hp t (by simp)
    have hlt := hl l (by simp)
    have hd : (Lib.decDigits l.size).length ≤ 5 := decDigits_len 4 l.size (by omega)
    have hm6 : (mk l.size).length ≤ 8 := by simp [mk]; omega
    have hz' : sz + 8 * (ls.length + 1) + (t.size + szs ts) + 1 ≤ 4001 := by simpa [szs] using hz
    have hdd := (decDigits_val l.size).2.1
    have hno : ∀ c ∈ lbytes t ++ mk l.size, c ≠ 10 := by
      intro c hc
      rcases List.mem_append.1 hc with hc | hc
      · exact hpt.1 c hc
      · unfold mk at hc
        rcases List.mem_cons.1 hc with rfl | hc
        · decide
        · rcases List.mem_append.1 hc with hc | hc
          · exact (dig_ne (hdd c hc)).2.2.2.2.1
          · rcases List.mem_cons.1 hc with rfl | hc
            · decide
            · rw [List.mem_singleton.1 hc]; decide
    have hll : (lbytes t ++ mk l.size).length ≤ t.size + 8 := by rw [List.length_append, lbytes_len]; omega
    rw [show rawL (t :: ts) (l :: ls) = (lbytes t ++ mk l.size) ++ ([13] ++ ([10] ++ (lbytes l ++ rawL ts ls))) by simp [rawL], takeS_app, take_line (lbytes t ++ mk l.size) _ rfl hno (by simp only [List.length_nil]; omega)]
    simp only [List.nil_append]
    have h13 : stepS ⟨T, L, lbytes t ++ mk l.size, sz, .line, 0, false⟩ 13 = (⟨T, L, (lbytes t ++ mk l.size) ++ [13], sz, .line, 0, false⟩, []) := by
      simp only [stepS, inLineS]
      rw [if_neg (by decide), if_pos (by simp only [if_true]; omega)]
    rw [takeS_app, show takeS ⟨T, L, lbytes t ++ mk l.size, sz, .line, 0, false⟩ [13] = (⟨T, L, (lbytes t ++ mk l.size) ++ [13], sz, .line, 0, false⟩, []) by simp [takeS, h13], takeS_app, take_end _ rfl _ rfl]
    have hmk := markS_mk (lbytes t) l.size (by omega)
    unfold endLineS
    rw [hmk]
    simp only [List.length_cons] at hL h
    dsimp only
    rw [if_neg (by omega), if_pos rfl]
    simp only [List.nil_append]
    have ih := fun (sz : Int) => take_raw ts ls (T ++ [t]) (L ++ [l]) sz (by omega) (fun x hx => hp x (List.mem_cons_of_mem _ hx)) (fun x hx => hl x (List.mem_cons_of_mem _ hx)) (by simp; omega)
    have ih2 := ih (sz + (lbytes t ++ mk l.size).length) (by omega) (by omega)
    by_cases hl0 : l.size = 0
    · have hl1 : lbytes l = [] := List.eq_nil_of_length_eq_zero (by rw [lbytes_len]; exact hl0)
      have hl2 : str [] = l := by rw [← hl1]; rfl
      unfold endedS
      rw [if_pos (by simp only; omega)]
      simp only [hl1, List.nil_append, str_lbytes, hl2, hl0]
      rw [hl0] at ih2
      simp only [Int.natCast_zero] at ih2 ⊢
      rw [ih2]
      simp
    · unfold endedS
      rw [if_neg (by simp only; omega), takeS_app, take_lit (lbytes l) _ rfl (fun h => hl0 (by rw [← lbytes_len, h]; rfl)) (by simp only [lbytes_len])]
      simp only [List.nil_append, str_lbytes]
      rw [ih2]
      simp
end Go.Proofs.YtakfdmhoooeejaaDoor.PP
