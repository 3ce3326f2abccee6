/-
  NamesBack.
-/
import Derived.Test.YtnkibbfpmhgeaaaDoorPPx14
import Derived.Test.YtnkibbfpmhgeaaaDoorMyNamesD
namespace Go.Proofs.YtnkibbfpmhgeaaaDoor.Pure
open Go.RowKit Go.Proofs.YtnkibbfpmhgeaaaDoor.PP Go.Proofs.YtnkibbfpmhgeaaaDoor.My Go.Proofs.YtnkibbfpmhgeaaaDoorW.PrintWords Go.Proofs.YtnkibbfpmhgeaaaDoorW.PrintLast
set_option linter.unusedVariables false
set_option linter.unusedSimpArgs false
theorem alive_ev : Ev haversacklaw07_alive.f true := ⟨60, fun k hk => alive_k hk⟩
theorem Ev.bd {α β : Type} {g : Nat → Option α} {f : Nat → α → Option β} {a : α} {r : β} (h : Ev g a) (k : Ev (fun n => f n a) r) : Ev (fun n => (g n).bind (f n)) r := by
  obtain ⟨K, hK⟩ := h
  obtain ⟨M, hM⟩ := k
  refine ⟨K + M, fun n hn => ?_⟩
  simp only [hK n (by omega), Option.bind_some]
  exact hM n (by omega)
theorem Ev.ret {α : Type} (r : α) : Ev (fun _ => some r) r := ⟨0, fun _ _ => rfl⟩
theorem Ev.go {α : Type} {g f : Nat → Option α} {r : α} (h : ∀ k, g (k + 1) = f k) (k : Ev f r) : Ev g r := Ev.next h k
theorem no_f (x : Int) : haversacklaw07_no.f x = some x := by unfold haversacklaw07_no.f; rfl
/-- Each byte of a text in seven bits is plain. -/
theorem encR_plain : ∀ (rs q : List Nat), ∀ c, c ∈ encR q rs → 32 ≤ c.toNat ∧ c.toNat ≤ 126 := by
  have hf : ∀ q c, c ∈ flushQ q → 32 ≤ c.toNat ∧ c.toNat ≤ 126 := by
    intro q c hc
    unfold flushQ at hc
    split at hc
    · cases hc
    · rcases List.mem_cons.1 hc with rfl | hc
      · decide
      · rcases List.mem_append.1 hc with hc | hc
        · obtain ⟨v, hv, rfl⟩ := enc6_lets _ (uniBits_bits _) c hc
          exact (let_facts ⟨v, hv⟩).2.2.2
        · rw [List.mem_singleton.1 hc]; decide
  intro rs
  induction rs with
  | nil => intro q c hc; rw [encR] at hc; exact hf q c hc
  | cons r rs ih =>
    intro q c hc
    rw [encR] at hc
    split at hc
    · rename_i hp
      rcases List.mem_append.1 hc with hc | hc
      · rcases List.mem_append.1 hc with hc | hc
        · exact hf q c hc
        · rcases List.mem_cons.1 hc with rfl | hc
          · unfold plainR at hp
            rw [UInt8.toNat_ofNat']
            omega
          · split at hc
            · rw [List.mem_singleton.1 hc]; decide
            · cases hc
      · exact ih [] c hc
    · exact ih _ c hc
theorem encB_inj (s t : List UInt8) (hs : Lib.validD s = true) (ht : Lib.validD t = true) (h : encB s = encB t) : s = t := by
  have h1 := dec_encB s hs ((encB s).length + 1) (by omega)
  have h2 := dec_encB t ht ((encB s).length + 1) (by rw [h]; omega)
  rw [← h, h1] at h2
  exact Option.some.inj h2
set_option maxHeartbeats 1000000 in
theorem back_law (s t : List UInt8) (h1 : s.length ≤ 2000) (h2 : t.length ≤ 2000) : Ev (fun k => haversacklaw07_NamesBack.j0 k (B s) (B t) false) true := by
  -- the second part: what t is
  have j2 : Ev (fun k => haversacklaw07_NamesBack.j2 k (B t) false) true := by
    cases hn : nd t with
    | none =>
      apply Ev.go
      · intro k
        rw [haversacklaw07_NamesBack.j2, if_neg (by decide), names_decode_f t (by omega), hn, Option.bind_some, no_f, Option.bind_some, if_neg (by decide)]
      · exact Ev.bd alive_ev (Ev.ret _)
    | some o =>
      obtain ⟨hv, he⟩ := (nd_is t o).1 hn
      have ho : o.length ≤ 4 * 2000 := by
        have hd := dec_encB o hv (t.length + 1) (by rw [he]; omega)
        rw [he] at hd
        have := decF_len _ _ _ _ hd
        simp at this; omega
      apply Ev.go
      · intro k
        rw [haversacklaw07_NamesBack.j2, if_neg (by decide), names_decode_f t (by omega), hn, Option.bind_some, no_f, Option.bind_some, if_pos rfl, names_encode_f o (by omega), if_pos hv, Option.bind_some, no_f, Option.bind_some, if_pos rfl, he, if_pos rfl]
      · exact Ev.bd alive_ev (Ev.ret _)
  have two : ∃ b f, names_Encode.f (B t) = some (B b, f) ∧ (f = 0 → Lib.validD t = true ∧ b = encB t) := by
    rw [names_encode_f t (by omega)]
    by_cases hv : Lib.validD t = true
    · exact ⟨encB t, 0, by rw [if_pos hv], fun _ => ⟨hv, rfl⟩⟩
    · exact ⟨[], 11, by rw [if_neg hv], fun h => by cases h⟩
  obtain ⟨b, f, hb, hbf⟩ := two
  by_cases hv : Lib.validD s = true
  · have hlen := encB_len s
    have hpl := encR_plain (runesOf s) []
    have hdec : nd (encB s) = some s := (nd_is _ _).2 ⟨hv, rfl⟩
    have fin : Ev (fun k => haversacklaw07_NamesBack.l0 k (B s) (B t) (B (encB s)) (B b) f ((encB s).length : Int) ((encB s).length : Int)) true := by
      apply Ev.go
      · intro k
        rw [haversacklaw07_NamesBack.l0, if_neg (by omega), names_decode_f _ (by omega), hdec, Option.bind_some, no_f, Option.bind_some, if_pos rfl, if_pos rfl, no_f, Option.bind_some]
      · by_cases hf : f = 0
        · obtain ⟨ht, rfl⟩ := hbf hf
          simp only [if_pos hf, ba_toList]
          have e : (encB s == encB t) = (s == t) := by
            rw [Bool.eq_iff_iff, beq_iff_eq, beq_iff_eq]
            exact ⟨encB_inj s t hv ht, fun h => by rw [h]⟩
          simp only [e, bne_self_eq_false]
          exact j2
        · simp only [if_neg hf]
          exact j2
    have l0 : ∀ d i : Nat, i + d = (encB s).length → Ev (fun k => haversacklaw07_NamesBack.l0 k (B s) (B t) (B (encB s)) (B b) f ((encB s).length : Int) (i : Int)) true := by
      intro d
      induction d with
      | zero =>
        intro i hi
        obtain rfl : i = (encB s).length := by omega
        exact fin
      | succ d ih =>
        intro i hi
        have hil : i < (encB s).length := by omega
        have hc := hpl (encB s)[i] (List.getElem_mem hil)
        have hbt : bt (B (encB s)) (i : Int) = ((encB s)[i].toNat : Int) := by rw [btn, getD_at _ i hil]
        refine Ev.go (fun k => ?_) (ih (i + 1) (by omega))
        rw [haversacklaw07_NamesBack.l0, if_pos (by omega), if_pos (by omega), ba_size, if_pos (by omega), hbt, if_neg (by omega), if_neg (by omega), show wrap64 ((i : Int) + 1) = ((i + 1 : Nat) : Int) by rw [w64 (by omega)]; omega]
    refine Ev.go (fun k => ?_) (l0 (encB s).length 0 (by omega))
    rw [haversacklaw07_NamesBack.j0, if_neg (by decide), names_encode_f s (by omega), if_pos hv, Option.bind_some, hb, Option.bind_some, no_f, Option.bind_some, if_pos rfl, ba_size]
    rfl
  · apply Ev.go
    · intro k
      rw [haversacklaw07_NamesBack.j0, if_neg (by decide), names_encode_f s (by omega), if_neg hv, Option.bind_some, hb, Option.bind_some, no_f, Option.bind_some, if_neg (by decide), Option.bind_some, if_pos rfl, ba_toList, if_pos rfl]
    · exact Ev.bd alive_ev (Ev.ret _)
theorem NamesBack : haversacklaw07_NamesBack.Pure := by
  intro a0 a1 _ _
  rw [ba_list a0, ba_list a1]
  generalize a0.data.toList = a
  generalize a1.data.toList = b
  have hal : Ev (fun k => haversacklaw07_NamesBack.j0 k (B a) (B b) true) true := by
    apply Ev.go
    · intro k; rw [haversacklaw07_NamesBack.j0, if_pos rfl]
    · exact Ev.bd alive_ev (Ev.ret _)
  have hev : Ev (fun k => haversacklaw07_NamesBack.f k (B a) (B b)) true := by
    unfold haversacklaw07_NamesBack.f
    simp only [ba_size]
    by_cases c0 : (a.length : Int) > 2000
    · simp only [if_pos c0]; exact hal
    · simp only [if_neg c0]
      by_cases c1 : (b.length : Int) > 2000
      · simp only [decide_eq_true c1]; exact hal
      · simp only [decide_eq_false c1]
        exact back_law a b (by omega) (by omega)
  obtain ⟨K, hK⟩ := hev
  exact ⟨K, hK K (Nat.le_refl _)⟩
end Go.Proofs.YtnkibbfpmhgeaaaDoor.Pure
