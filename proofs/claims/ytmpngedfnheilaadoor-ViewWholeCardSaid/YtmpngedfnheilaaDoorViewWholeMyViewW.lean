/- YtmpngedfnheilaaDoorMyViewW, as far as ViewWhole needs it (prune.py). -/
import Derived.Test.YtmpngedfnheilaaDoorViewWholeMyViewZ
import Derived.Deep.Cut
import Derived.Deep.CutRange
import Derived.Deep.CutBlock
namespace Go.Proofs.YtmpngedfnheilaaDoor.My
open Go.RowKit Go.Proofs.YtmpngedfnheilaaDoorW.PrintWords
theorem MI.other {w : World} {b b2 : Nat} {ps : List (Int × Value)} (h : MI w b ps) (hne : b ≠ b2) (o : Obj) : MI (setB w b2 o) b ps := h.keep (setB_ne w o hne)
theorem MI.drewN {w : World} {b : Nat} {ps : List (Int × Value)} (h : MI w b ps) (n : Nat) : MI (w.drewN n) b ps := h
theorem MI.below {w w' : World} {b : Nat} {ps : List (Int × Value)} (h : MI w b ps) (hb : Below w.heap.size w w') : MI w' b ps := h.keep (hb.block b (by obtain ⟨es, h, _⟩ := h; exact (Array.getElem?_eq_some_iff.1 h).1))
theorem MI.ltS {w : World} {b : Nat} {ps : List (Int × Value)} (h : MI w b ps) : b < w.heap.size := by obtain ⟨es, h, _⟩ := h; exact (Array.getElem?_eq_some_iff.1 h).1
end Go.Proofs.YtmpngedfnheilaaDoor.My
namespace Go.Proofs.YtmpngedfnheilaaDoor.PP
open Go.RowKit Go.Proofs.YtmpngedfnheilaaDoorW.PrintWords Go.Proofs.YtmpngedfnheilaaDoorW.PrintLast Go.Proofs.YtmpngedfnheilaaDoorW.PrintMore
open Go.Proofs.YtmpngedfnheilaaDoor.My
set_option linter.unusedVariables false
set_option linter.unusedSimpArgs false
/-- A map of whole numbers, all told 'true'. -/
def bM (l : List Int) : List (Int × Value) := l.map fun u => (u, .bool true)
theorem getI_bM (x : Int) : ∀ l : List Int, getI (bM l) x = if x ∈ l then some (.bool true) else none
  | [] => by simp [bM, getI]
  | u :: l => by
    have ih := getI_bM x l
    unfold bM at ih ⊢
    simp only [List.map_cons, getI]
    by_cases h : x = u
    · rw [if_pos h, if_pos (by rw [h]; exact List.mem_cons_self ..)]
    · rw [if_neg h, ih]
      by_cases h2 : x ∈ l
      · rw [if_pos h2, if_pos (List.mem_cons_of_mem _ h2)]
      · rw [if_neg h2, if_neg (fun h3 => (List.mem_cons.1 h3).elim h h2)]
theorem bM_snoc (l : List Int) (u : Int) : bM (l ++ [u]) = bM l ++ [(u, .bool true)] := by simp [bM]
set_option maxRecDepth 100000 in
theorem bM_look {w : World} {b : Nat} {l : List Int} (h : MI w b (bM l)) (x : Int) : (Instr.lookup 29 (.map (some b)) (.int .i64 x) false).run Tryd.prog w = .ok (.bool (decide (x ∈ l))) w := by
  refine (h.lookup Tryd.underlying29 Tryd.underlying3 (z := .bool false) (by rfl) x).trans ?_
  rw [getI_bM]
  by_cases hx : x ∈ l
  · rw [if_pos hx, decide_eq_true hx]; rfl
  · rw [if_neg hx, decide_eq_false hx]; rfl
set_option maxRecDepth 100000 in
theorem bM_put {w : World} {b : Nat} {l : List Int} (h : MI w b (bM l)) (x : Int) (hx : x ∉ l) : ∃ o, (Instr.mapUpdate 29 (.map (some b)) (.int .i64 x) (.bool true)).run Tryd.prog w = .ok () (setB w b o) ∧ MI (setB w b o) b (bM (l ++ [x])) := by
  obtain ⟨o, h1, h2⟩ := h.update (t := 29) Tryd.underlying29 Tryd.underlying3 x (by rw [getI_bM, if_neg hx]) (.bool true)
  exact ⟨o, h1, by rw [bM_snoc]; exact h2⟩
theorem setB_chg (w : World) (b : Nat) (o : Obj) {ps : List (Int × Value)} (hm : MI w b ps) {k : Nat} {c : Array Value} {q : TypeId} {f : Nat × Nat} (hk : w.heap[k]? = some (.cells c q f)) : (setB w b o).heap[k]? = w.heap[k]? := by
  refine setB_ne w o ?_
  rintro rfl
  obtain ⟨es, h, _⟩ := hm
  rw [hk] at h
  cases h
theorem R_setB {α : Type} {d : Kd α} {e base : Nat} {ok : Nat → Prop} {w : World} {v : Value} {xs : List α} {b : Nat} {ps : List (Int × Value)} (h : d.R e w base ok v xs) (hm : MI w b ps) (o : Obj) : d.R e (setB w b o) base ok v xs :=
  Kd.R_mono (Kd.R_step (Kd.R_bound h) (fun k hk hlt => by
    obtain ⟨_, _, _, q, hq, c, hb⟩ := hk
    exact setB_chg w b o hm hb)) (fun k hk => hk.1)
theorem VW.setB {N0 : Nat} {w : World} {g : Nat} {v : Value} {l : List Pl} {top : Int} {b : Nat} {ps : List (Int × Value)} (h : VW N0 w g v l top) (hm : MI w b ps) (o : Obj) : VW N0 (My.setB w b o) g v l top :=
  h.keep (setB_chg w b o hm h.blk) (fun k hk => by obtain ⟨c, hb⟩ := Kd.N_typed h.row k hk; exact setB_chg w b o hm hb) (fun k hk => by obtain ⟨c, hb⟩ := hk; exact setB_chg w b o hm hb)
end Go.Proofs.YtmpngedfnheilaaDoor.PP
