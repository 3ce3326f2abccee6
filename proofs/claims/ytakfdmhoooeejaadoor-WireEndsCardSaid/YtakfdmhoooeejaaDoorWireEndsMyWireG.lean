/- YtakfdmhoooeejaaDoorMyWireG, as far as WireEnds needs it (prune.py). -/
import Derived.Test.YtakfdmhoooeejaaDoorWireEndsMyWireF
namespace Go.Proofs.YtakfdmhoooeejaaDoor.PP
open Go.RowKit Go.Proofs.YtakfdmhoooeejaaDoorW.PrintWords Go.Proofs.YtakfdmhoooeejaaDoorW.PrintLast Go.Proofs.YtakfdmhoooeejaaDoorW.PrintMore
open Go.Proofs.YtakfdmhoooeejaaDoor.My
set_option linter.unusedVariables false
set_option linter.unusedSimpArgs false
def stepS (s : FS) (c : UInt8) : FS × List Evt := match s.md with
  | .line => inLineS s c
  | .lit => (inLitS s c, [])
  | .skipLine => (skipLineS s c, [])
  | .skipLit => (skipLitS s c, [])
def takeS : FS → List UInt8 → FS × List Evt
  | s, [] => (s, [])
  | s, c :: l => ((takeS (stepS s c).1 l).1, (stepS s c).2 ++ (takeS (stepS s c).1 l).2)
theorem takeS_app : ∀ (a b : List UInt8) (s : FS), takeS s (a ++ b) = ((takeS (takeS s a).1 b).1, (takeS s a).2 ++ (takeS (takeS s a).1 b).2)
  | [], b, s => by simp [takeS]
  | c :: a, b, s => by simp [takeS, takeS_app a b, List.append_assoc]
/-- What lies in a feed, by what waits for the next byte. -/
def Waits (s : FS) : Prop := match s.md with
  | .line => s.texts.length = s.lits.length ∧ s.size + (Lib.trimSuffix s.line [13]).length ≤ 4000 ∧ s.left = 0 ∧ s.skip = false
  | .lit => s.texts.length = s.lits.length + 1 ∧ s.lits.length ≤ 19 ∧ 1 ≤ s.left ∧ s.line.length + s.left ≤ 50000 ∧ s.skip = false
  | .skipLine => s.texts = [] ∧ s.lits = [] ∧ s.line = [] ∧ s.left = 0 ∧ s.skip = true ∧ s.size = 0
  | .skipLit => s.texts = [] ∧ s.lits = [] ∧ s.line = [] ∧ 1 ≤ s.left ∧ s.left ≤ 999999 ∧ s.skip = true ∧ s.size = 0
structure Inv (s : FS) : Prop where
  sz : 0 ≤ s.size ∧ s.size ≤ 4000
  ll : s.lits.length ≤ 20
  md : Waits s
theorem trimS_ge (l : List UInt8) : l.length ≤ (Lib.trimSuffix l [13]).length + 1 := by
  unfold Lib.trimSuffix
  split
  · rw [List.length_take]; simp; omega
  · omega
theorem Inv.texts {s : FS} (h : Inv s) : s.texts.length ≤ 21 := by
  have h1 := h.md
  have h2 := h.ll
  unfold Waits at h1
  split at h1
  · omega
  · omega
  · rw [h1.1]; simp
  · rw [h1.1]; simp
theorem Inv.line {s : FS} (h : Inv s) : s.line.length ≤ 50000 := by
  have h1 := h.md
  have h2 := h.sz
  unfold Waits at h1
  split at h1
  · have := trimS_ge s.line; omega
  · omega
  · rw [h1.2.2.1]; simp
  · rw [h1.2.2.1]; simp
theorem Inv.left {s : FS} (h : Inv s) : 0 ≤ s.left ∧ s.left ≤ 999999 := by
  have h1 := h.md
  unfold Waits at h1
  split at h1 <;> omega
theorem Inv.begin {s : FS} (h : s.left = 0) : Inv (beginS s) := ⟨by simp [beginS], by simp [beginS], by
  unfold Waits beginS
  exact ⟨rfl, by simp [Lib.trimSuffix], h, rfl⟩⟩
theorem Inv.zero : Inv fs0 := ⟨by simp [fs0], by simp [fs0], by
  unfold Waits fs0
  exact ⟨rfl, by simp [Lib.trimSuffix], by simp⟩⟩
theorem hasS_one (l : List UInt8) (c d : UInt8) : Lib.hasSuffix (l ++ [c]) [d] = (d == c) := by
  show List.isPrefixOf [d].reverse (l ++ [c]).reverse = (d == c)
  rw [List.reverse_append]
  simp [List.isPrefixOf]
theorem trimS_same (l : List UInt8) : Lib.trimSuffix (l ++ [13]) [13] = l := by
  unfold Lib.trimSuffix
  rw [hasS_one]
  simp
theorem trimS_other (l : List UInt8) {c : UInt8} (h : c ≠ 13) : Lib.trimSuffix (l ++ [c]) [13] = l ++ [c] := by
  unfold Lib.trimSuffix
  rw [hasS_one, if_neg (by simpa using fun e => h e.symm)]
/-- After a text with a mark: on with the line, if the literal is one of no bytes. -/
theorem Inv.ended {s : FS} (hz : 0 ≤ s.size ∧ s.size ≤ 4000) (ht : s.texts.length = s.lits.length + 1) (hl : s.lits.length ≤ 19) (hm : s.md = .lit) (hf : 0 ≤ s.left) (hb : s.line.length + s.left ≤ 50000) (hk : s.skip = false) : Inv (endedS s) := by
  unfold endedS
  split
  · rename_i h0
    refine ⟨hz, by simp; omega, ?_⟩
    unfold Waits
    exact ⟨by simp; omega, by simp [Lib.trimSuffix]; omega, h0, hk⟩
  · rename_i h0
    refine ⟨hz, by omega, ?_⟩
    unfold Waits
    rw [hm]
    exact ⟨ht, hl, by omega, hb, hk⟩
theorem Inv.endLine {s : FS} (h : Inv s) (hm : s.md = .line) : Inv (endLineS s (Lib.trimSuffix s.line [13])).1 := by
  have h1 := h.md
  unfold Waits at h1
  rw [hm] at h1
  obtain ⟨ht, hs, hl, hk⟩ := h1
  have hll := h.ll
  have hsz := h.sz
  unfold endLineS
  split
  · exact Inv.begin hl
  · rename_i t n on he
    have hn := markS_n he
    split
    · split
      · unfold skippedS
        split
        · rename_i h0
          refine ⟨by simp [beginS], by simp [beginS], ?_⟩
          unfold Waits beginS
          exact ⟨rfl, rfl, rfl, h0, rfl, rfl⟩
        · rename_i h0
          simp only at h0
          refine ⟨by simp [beginS], by simp [beginS], ?_⟩
          unfold Waits beginS
          exact ⟨rfl, rfl, rfl, (show 1 ≤ n by omega), hn.2, rfl, rfl⟩
      · exact Inv.begin hl
    · rename_i h0
      have h00 := not_or.1 h0
      refine Inv.ended ?_ ?_ ?_ rfl ?_ ?_ hk
      · simp only; omega
      · simp; omega
      · simp only; omega
      · exact hn.1
      · simp; omega
theorem Inv.step {s : FS} (h : Inv s) (c : UInt8) : Inv (stepS s c).1 := by
  have h1 := h.md
  have hll := h.ll
  have hsz := h.sz
  unfold Waits at h1
  unfold stepS
  cases hm : s.md
  · simp only
    rw [hm] at h1
    obtain ⟨ht, hs, hl, hk⟩ := h1
    unfold inLineS
    split
    · exact h.endLine hm
    · by_cases hn : s.size + (s.line.length + 1) - (if c = 13 then 1 else 0) ≤ 4000
      · rw [if_pos hn]
        refine ⟨hsz, hll, ?_⟩
        unfold Waits
        simp only [hm]
        refine ⟨ht, ?_, hl, hk⟩
        by_cases h13 : c = 13
        · subst h13
          rw [trimS_same]
          rw [if_pos rfl] at hn
          omega
        · rw [trimS_other _ h13]
          rw [if_neg h13] at hn
          simp only [List.length_append, List.length_cons, List.length_nil]
          omega
      · rw [if_neg hn]
        refine ⟨by simp [beginS], by simp [beginS], ?_⟩
        unfold Waits beginS
        exact ⟨rfl, rfl, rfl, hl, rfl, rfl⟩
  · simp only
    rw [hm] at h1
    obtain ⟨ht, hl, hf, hb, hk⟩ := h1
    unfold inLitS
    refine Inv.ended hsz ht hl hm ?_ ?_ hk
    · simp only; omega
    · simp; omega
  · simp only
    rw [hm] at h1
    obtain ⟨ht, hl, hb, hf, hk, hz⟩ := h1
    unfold skipLineS
    split
    · exact Inv.begin hf
    · exact h
  · simp only
    rw [hm] at h1
    obtain ⟨ht, hl, hb, hf, hf2, hk, hz⟩ := h1
    unfold skipLitS skippedS
    split
    · rename_i h0
      refine ⟨hsz, hll, ?_⟩
      unfold Waits
      exact ⟨ht, hl, hb, h0, hk, hz⟩
    · rename_i h0
      simp only at h0
      refine ⟨hsz, hll, ?_⟩
      unfold Waits
      simp only [hm]
      exact ⟨ht, hl, hb, by omega, by omega, hk, hz⟩
theorem Inv.take : ∀ (l : List UInt8) {s : FS}, Inv s → Inv (takeS s l).1
  | [], s, h => h
  | c :: l, s, h => Inv.take l (h.step c)
theorem evs_line (s : FS) (l : List UInt8) : (endLineS s l).2.length ≤ 1 := by
  unfold endLineS
  split
  · simp
  · split
    · simp
    · split <;> simp
theorem evs_step (s : FS) (c : UInt8) : (stepS s c).2.length ≤ 1 := by
  unfold stepS
  split
  · unfold inLineS
    split
    · exact evs_line _ _
    · generalize s.size + (s.line.length + 1) - (if c = 13 then 1 else 0) = n
      split <;> simp
  · simp
  · simp
  · simp
theorem evs_take : ∀ (l : List UInt8) (s : FS), (takeS s l).2.length ≤ l.length
  | [], s => by simp [takeS]
  | c :: l, s => by
    have h1 := evs_step s c
    have h2 := evs_take l (stepS s c).1
    simp only [takeS, List.length_append, List.length_cons]
    omega
theorem EN.after {W w' : World} {base N0 g : Nat} {V V' : FV} {v : Value} {l : List Evt} (h : EN W base g V v l) (hx : FX N0 g W V w' V') : EN w' base g V' v l :=
  Kd.N_mono (Kd.N_kept (Kd.N_bound h) hx.kept (fun k hk => hk.1.2)) (fun k hk => ⟨hk.1.1, fun hf => (hx.own k hf).elim hk.1.2 (fun hle => by have := hk.2; omega)⟩)
theorem EN.none (w : World) (base g : Nat) (V : FV) : EN w base g V (.slice none 0 0) [] := Kd.N_nil _ _ _ _ _
theorem step_ok (N0 g : Nat) (w : World) (V : FV) (s : FS) (c : UInt8) (h : FW N0 w g V s) (hi : Inv s) :
    Calls Tryd.prog (fnOf s.md) #[.pointer (some ⟨g, 0, none⟩), .int .u8 c.toNat] w fun e w' => ∃ (vo : Value) (V' : FV), e = .returned vo ∧ EN w' w.heap.size g V' vo (stepS s c).2 ∧ FW N0 w' g V' (stepS s c).1 ∧ FX N0 g w V w' V' := by
  have h1 := hi.left
  have h2 := hi.line
  have h3 := hi.texts
  have h4 := hi.ll
  have h5 := hi.sz
  unfold stepS
  cases hm : s.md
  · exact inLine_ok N0 g w V s c h (by omega) (by omega) (by omega) h5
  · refine (inLiteral_ok N0 g w V s c h (by omega) (by omega) (by omega)).mono ?_
    rintro e w' ⟨rfl, V', h6, h7⟩
    exact ⟨_, V', rfl, EN.none _ _ _ _, h6, h7⟩
  · refine (skipLine_ok N0 g w V s c h).mono ?_
    rintro e w' ⟨rfl, V', h6, h7⟩
    exact ⟨_, V', rfl, EN.none _ _ _ _, h6, h7⟩
  · refine (skipLiteral_ok N0 g w V s c h (by omega)).mono ?_
    rintro e w' ⟨rfl, V', h6, h7⟩
    exact ⟨_, V', rfl, EN.none _ _ _ _, h6, h7⟩
end Go.Proofs.YtakfdmhoooeejaaDoor.PP
