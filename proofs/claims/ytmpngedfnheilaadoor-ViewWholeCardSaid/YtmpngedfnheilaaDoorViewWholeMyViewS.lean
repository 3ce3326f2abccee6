/- YtmpngedfnheilaaDoorMyViewS, as far as ViewWhole needs it (prune.py). -/
import Derived.Test.YtmpngedfnheilaaDoorViewWholeMyViewL
namespace Go.Proofs.YtmpngedfnheilaaDoor.PP
open Go.RowKit Go.Proofs.YtmpngedfnheilaaDoorW.PrintWords Go.Proofs.YtmpngedfnheilaaDoorW.PrintLast Go.Proofs.YtmpngedfnheilaaDoorW.PrintMore
open Go.Proofs.YtmpngedfnheilaaDoor.My
set_option linter.unusedVariables false
set_option linter.unusedSimpArgs false
/-- The map of flags: a row of texts for each message. -/
def FM (FL : List ByteArray → List ByteArray) (w : World) (base : Nat) : List (Int × Value) → List Ml → Prop
  | [], [] => True
  | p :: ps, m :: ms => p.1 = m.f0 ∧ Kd.R Kd.string 9 w base (fun _ => True) p.2 (FL m.f1) ∧ FM FL w base ps ms
  | _, _ => False
def thereM (ms : List Ml) : List (Int × Value) := ms.map fun m => (m.f0, .bool true)
theorem FM.snoc {FL : List ByteArray → List ByteArray} {w : World} {base : Nat} {p : Int × Value} {m : Ml} (h1 : p.1 = m.f0) (h2 : Kd.R Kd.string 9 w base (fun _ => True) p.2 (FL m.f1)) : ∀ (ps : List (Int × Value)) (ms : List Ml), FM FL w base ps ms → FM FL w base (ps ++ [p]) (ms ++ [m])
  | [], [], _ => ⟨h1, h2, trivial⟩
  | q :: ps, n :: ms, h => ⟨h.1, h.2.1, FM.snoc h1 h2 ps ms h.2.2⟩
  | [], n :: ms, h => h.elim
  | q :: ps, [], h => h.elim
theorem FM.step {FL : List ByteArray → List ByteArray} {w w' : World} {base : Nat} (ht : ∀ k, T9 w k → w'.heap[k]? = w.heap[k]?) : ∀ (ps : List (Int × Value)) (ms : List Ml), FM FL w base ps ms → FM FL w' base ps ms
  | [], [], _ => trivial
  | q :: ps, n :: ms, h => ⟨h.1, Kd.R_mono (Kd.R_step (Kd.R_of_own (Kd.own_of_R h.2.1) (fun k hk => (Kd.R_typed h.2.1 k hk : T9 w k))) (fun k hk _ => ht k hk)) (fun _ _ => trivial), FM.step ht ps ms h.2.2⟩
  | [], n :: ms, h => h.elim
  | q :: ps, [], h => h.elim
theorem FM.len {FL : List ByteArray → List ByteArray} {w : World} {base : Nat} : ∀ (ps : List (Int × Value)) (ms : List Ml), FM FL w base ps ms → ps.length = ms.length
  | [], [], _ => rfl
  | q :: ps, n :: ms, h => by simp [FM.len ps ms h.2.2]
  | [], n :: ms, h => h.elim
  | q :: ps, [], h => h.elim
/-- The UIDs that rise are all different. -/
theorem getI_new {FL : List ByteArray → List ByteArray} {w : World} {base : Nat} (x : Int) : ∀ (ps : List (Int × Value)) (ms : List Ml), FM FL w base ps ms → (∀ m ∈ ms, m.f0 ≠ x) → getI ps x = none
  | [], [], _, _ => rfl
  | q :: ps, n :: ms, h, hx => by
    have h1 : x ≠ q.1 := fun e => hx n (List.mem_cons_self ..) (by rw [← h.1, e])
    simp only [getI, if_neg h1]
    exact getI_new x ps ms h.2.2 (fun m hm => hx m (List.mem_cons_of_mem _ hm))
  | [], n :: ms, h, _ => h.elim
  | q :: ps, [], h, _ => h.elim
theorem getI_there (x : Int) : ∀ (ms : List Ml), getI (thereM ms) x = if ∃ m ∈ ms, m.f0 = x then some (.bool true) else none
  | [] => by simp [thereM, getI]
  | m :: ms => by
    have ih := getI_there x ms
    unfold thereM at ih ⊢
    simp only [List.map_cons, getI]
    by_cases h : x = m.f0
    · rw [if_pos h, if_pos ⟨m, List.mem_cons_self .., h.symm⟩]
    · rw [if_neg h, ih]
      by_cases h2 : ∃ m ∈ ms, m.f0 = x
      · rw [if_pos h2, if_pos (by obtain ⟨a, b, c⟩ := h2; exact ⟨a, List.mem_cons_of_mem _ b, c⟩)]
      · rw [if_neg h2, if_neg]
        rintro ⟨a, b, c⟩
        rcases List.mem_cons.1 b with rfl | b
        · exact h c.symm
        · exact h2 ⟨a, b, c⟩
theorem risL_above : ∀ (l : List Ml) (t : Int), ∀ m ∈ risL l t, t < m.f0
  | [], _, m, h => by cases h
  | a :: l, t, m, h => by
    unfold risL at h
    split at h
    · rcases List.mem_cons.1 h with rfl | h
      · assumption
      · have := risL_above l a.f0 m h; omega
    · exact risL_above l t m h
theorem risL_pair : ∀ (l : List Ml) (t : Int), (risL l t).Pairwise (fun a b => a.f0 < b.f0)
  | [], _ => .nil
  | a :: l, t => by
    unfold risL
    split
    · exact .cons (fun m hm => risL_above l a.f0 m hm) (risL_pair l a.f0)
    · exact risL_pair l t
end Go.Proofs.YtmpngedfnheilaaDoor.PP
