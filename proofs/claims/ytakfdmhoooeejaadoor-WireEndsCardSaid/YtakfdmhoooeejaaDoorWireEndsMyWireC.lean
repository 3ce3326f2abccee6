/- YtakfdmhoooeejaaDoorMyWireC, as far as WireEnds needs it (prune.py). -/
import Derived.Test.YtakfdmhoooeejaaDoorWireEndsMyWireB
namespace Go.Proofs.YtakfdmhoooeejaaDoor.PP
open Go.RowKit Go.Proofs.YtakfdmhoooeejaaDoorW.PrintWords Go.Proofs.YtakfdmhoooeejaaDoorW.PrintLast Go.Proofs.YtakfdmhoooeejaaDoorW.PrintMore
open Go.Proofs.YtakfdmhoooeejaaDoor.My
set_option linter.unusedVariables false
set_option linter.unusedSimpArgs false
section
variable {w w1 W : World} {base b b' c lo n m : Nat} {v v1 v' : Value} {l l' : List ByteArray} {row : Option Nat} {o : Obj} {Q Q' : Nat → Prop} {A : Option Addr}
/-- No elements, in block b. -/
abbrev emp (b : Nat) : Value := .slice (some ⟨b, 0, none⟩) 0 0
/-- A row of nothing, in a block of its own. -/
theorem R_empty (h : W.heap[b]? = some (.cells #[] 9 (0, 0))) (hb : base ≤ b) : SRow W base (.slice (some ⟨b, 0, none⟩) 0 0) [] := by
  exact Kd.R_of_own ⟨by simp [encs], .inr ⟨b, 0, #[], rfl, hb, h, Nat.le_refl _, by simp [maxLen], by simp, by simp [encs]⟩⟩ (fun _ _ => trivial)
theorem heap_drewE (h : W.heap[b]? = some o) : W.drew.heap[b]? = some o := h
theorem blk_newE {cs : Array Value} {t : TypeId} (hb : b = W.heap.size) : (W.alloc (.cells cs t)).heap[b]? = some (.cells cs t (0, 0)) := by rw [hb]; exact blk_new _ _
theorem heap_allocE {x : Obj} (hb : b < W.heap.size) (h : W.heap[b]? = some o) : (W.alloc x).heap[b]? = some o := (Below.heap_alloc W x b hb).trans h
theorem grown_look (hg : Aside0 (W.grownBy w1 row)) (hlt : b < W.heap.size) (hne : some b ≠ row) (h : W.heap[b]? = some o) : w1.heap[b]? = some o := (hg.out.block b hlt hne).trans h
theorem own_lit (h : b ≠ b') : some b ≠ (Value.slice (some ⟨b', 0, none⟩) n c).ownBlock := fun e => by
  have : some b = some b' := e
  injection this with this
  exact h this
theorem own_let (h : Aside0 (∀ k, v.ownBlock = some k → Q k)) (hn : ¬ Q b) : some b ≠ v.ownBlock := fun e => hn (h.out b e.symm)
theorem row_over (hg : Aside0 (W.grownBy w1 row)) (hn : ∀ k, v.ownBlock = some k → some k ≠ row) (h : SRow W base v l) : SRow w1 base v l :=
  R_same h (fun k hk => hg.out.block k (Kd.R_lt h k hk) (hn k hk))
theorem ne_let_lit (h : Aside0 (∀ k, v.ownBlock = some k → Q k)) (hn : ¬ Q b) : ∀ k, v.ownBlock = some k → some k ≠ (Value.slice (some ⟨b, 0, none⟩) n c).ownBlock := fun k hk e => by
  have : some k = some b := e
  injection this with this
  subst this
  exact hn (h.out k hk)
theorem ne_let_let (h : Aside0 (∀ k, v.ownBlock = some k → Q k)) (h' : Aside0 (∀ k, v'.ownBlock = some k → Q' k)) (hn : ∀ k, Q k → Q' k → False) : ∀ k, v.ownBlock = some k → some k ≠ v'.ownBlock := fun k hk e => hn k (h.out k hk) (h'.out k e.symm)
theorem HA_lit (hat : v1.ownBlock = (Value.slice (some ⟨b, 0, none⟩) n c).ownBlock ∨ ∃ b', v1.ownBlock = some b' ∧ lo ≤ b') (hr : SRow w1 base v1 l) : ∀ k, v1.ownBlock = some k → k = b ∨ (lo ≤ k ∧ k < w1.heap.size) := fun k hk => by
  have hlt := Kd.R_lt hr k hk
  rcases hat with e | ⟨b', e, hle⟩
  · have : some b = some k := e.symm.trans hk
    injection this with this
    exact .inl this.symm
  · rw [hk] at e
    injection e with e
    exact .inr ⟨by omega, hlt⟩
theorem below_setG {B b i : Nat} {w W : World} {v : Value} (h : Below B w W) (hp : B ≤ b) : Below B w (W.setCell ⟨b, i, none⟩ v) := h.setCell (p := ⟨b, i, none⟩) hp v
theorem HA_let (h : Aside0 (∀ k, v.ownBlock = some k → Q k)) (hat : v1.ownBlock = v.ownBlock ∨ ∃ b', v1.ownBlock = some b' ∧ lo ≤ b') (hr : SRow w1 base v1 l) : ∀ k, v1.ownBlock = some k → Q k ∨ (lo ≤ k ∧ k < w1.heap.size) := fun k hk => by
  have hlt := Kd.R_lt hr k hk
  rcases hat with e | ⟨b', e, hle⟩
  · exact .inl (h.out k (e.symm.trans hk))
  · rw [hk] at e
    injection e with e
    exact .inr ⟨by omega, hlt⟩
end
set_option maxHeartbeats 8000000 in
set_option maxRecDepth 100000 in
theorem raw_ok (N0 g : Nat) (w : World) (V : FV) (s : FS) (A : Option Addr) (c : Nat) (x : ByteArray) (h : FW N0 w g V s) (hC : Kd.C Kd.string w A 1 [x]) (ht : s.texts.length ≤ 1000000) (hl : s.lits.length ≤ 1000000) :
    Calls Tryd.prog 30 #[.pointer (some ⟨g, 0, none⟩), .slice A 1 c] w fun e w' => ∃ (A1 A2 : Option Addr) (c1 c2 : Nat), e = .returned (.agg #[.slice A1 (s.texts.length + 1) c1, .slice A2 s.lits.length c2]) ∧ SRow w' w.heap.size (.slice A1 (s.texts.length + 1) c1) (s.texts ++ [x]) ∧ SRow w' w.heap.size (.slice A2 s.lits.length c2) s.lits ∧ Below w.heap.size w w' := by
  have HV := Aside0.mk h
  have HC := Aside0.mk hC
  have HT := Aside0.mk ht
  have HL := Aside0.mk hl
  obtain ⟨At, ct, et⟩ := Kd.R_slice h.rt
  obtain ⟨Al, cl, el⟩ := Kd.R_slice h.rl
  have HRT := Aside0.mk (Kd.R_reads' (et ▸ h.rt)).2.2
  have HRL := Aside0.mk (Kd.R_reads' (el ▸ h.rl)).2.2
  have HKS := Aside0.mk (fun (W : World) (hb : Below w.heap.size w W) => (by
    have ha := (h.below hb).all.1
    exact ⟨by have := ha.1; rwa [et] at this, by have := ha.2.1; rwa [el] at this, ⟨hb⟩⟩ : W.cell? ⟨g, 0, none⟩ = some (.slice At s.texts.length ct) ∧ W.cell? ⟨g, 1, none⟩ = some (.slice Al s.lits.length cl) ∧ Aside0 (Below w.heap.size w W)))
  clear h hC ht hl et el
  go_enter Tryd.func30, Tryd.ntmps30
  obtain ⟨k0, k1, k2⟩ := HKS.out w (Below.refl _ _)
  go_upto_region 1 with fail
  go_region_held3 (fun W => W.cell? ⟨g, 0, none⟩ = some (.slice At s.texts.length ct) ∧ W.cell? ⟨g, 1, none⟩ = some (.slice Al s.lits.length cl) ∧ Aside0 (Below w.heap.size w W)) (first | exact hHeld | (refine HKS.out _ ?_; first | (with_reducible assumption) | (with_reducible exact Below.refl _ _) | ((repeat (first | (with_reducible exact hHeld.2.2.out) | (with_reducible first | exact Below.refl _ _ | assumption | apply below_alloc | apply pw_below_drewN | apply below_drew1 | (refine below_setG ?_ (by omega))))); done))) (first | (refine Kd.R_append_rows_step Kd.string (w0 := w) w.heap.size (by rfl) (.tmp 5) (.tmp 9) 35 9 (.string ⟨#[]⟩) 16 rfl Tryd.underlying35 infS rfl (by decide) (by omega) (emp _) [] s.texts At s.texts.length ct (fun _ => True) (fun _ => False) (by exact rfl) ?aX ?aO ?aR (fun _ _ h => h) (fun _ h => h.elim) ?aF ?aB ?aS ?aL ?_; (case aX => exact rfl); (case aF => exact (fun _ _ => trivial)); (case aB => (with_reducible repeat (first | exact hHeld.2.2.out | exact Below.refl _ _ | assumption | apply below_alloc | apply pw_below_drewN | apply below_drew1))); (case aS => exact below_size (by (with_reducible repeat (first | exact hHeld.2.2.out | exact Below.refl _ _ | assumption | apply below_alloc | apply pw_below_drewN | apply below_drew1)))); (case aL => have := HT.out; simp; omega); (case aR => exact Kd.C_below HRT.out (by (with_reducible repeat (first | exact hHeld.2.2.out | exact Below.refl _ _ | assumption | apply below_alloc | apply pw_below_drewN | apply below_drew1)))); (case aO => exact R_empty (by with_reducible repeat (first | assumption | (refine heap_drewE ?_) | (refine blk_newE ?_; first | rfl | (simp only [World.size_alloc, World.size_drew]; done)) | (refine heap_allocE (by first | omega | (simp only [World.size_alloc, World.size_drew]; omega)) ?_) | (refine grown_look (by assumption) (by first | omega | (simp only [World.size_alloc, World.size_drew]; omega)) (by first | (refine own_lit ?_; omega) | (refine own_let (by assumption) ?_; first | omega | (simp only [World.size_alloc, World.size_drew]; omega))) ?_))) (by first | omega | (simp only [World.size_alloc, World.size_drew]; omega))); intro v10 w10 ho hb hg hat; rw [List.nil_append] at ho; obtain ⟨A10, c10, e10'⟩ := Kd.R_slice ho; subst e10'; have HG10 := Aside0.mk hg; have s10 := hg.size; have e10 : w10.heap[w.heap.size]? = some (.cells #[.slice none 0 0, .slice none 0 0] 37 (0, 0)) := (hg.block _ (by first | omega | (simp only [World.size_alloc, World.size_drew]; omega)) (by first | (refine own_lit ?_; omega) | (refine own_let (by assumption) ?_; first | omega | (simp only [World.size_alloc, World.size_drew]; omega)))).trans (by (with_reducible repeat (first | assumption | (refine heap_drewE ?_) | (refine blk_newE ?_; first | rfl | (simp only [World.size_alloc, World.size_drew]; done)) | (refine heap_allocE (by first | omega | (simp only [World.size_alloc, World.size_drew]; omega)) ?_) | (refine grown_look (by assumption) (by first | omega | (simp only [World.size_alloc, World.size_drew]; omega)) (by first | (refine own_lit ?_; omega) | (refine own_let (by assumption) ?_; first | omega | (simp only [World.size_alloc, World.size_drew]; omega))) ?_)))); have p10 := (blk_cell e10 0).trans (show _ = some (Value.slice none 0 0) from rfl); have q10 := (blk_cell e10 1).trans (show _ = some (Value.slice none 0 0) from rfl); have r10 := blk_frozen e10 0; have t10 := blk_frozen e10 1; have hA10 := HA_lit hat ho; have HA10 := Aside0.mk hA10; have HO10 := Aside0.mk ho; try simp only [World.size_alloc, World.size_drew] at s10; clear hA10 ho hg hat) | (refine Kd.R_append_rows_step Kd.string (w0 := w) w.heap.size (by rfl) (.tmp 10) (.tmp 11) 35 9 (.string ⟨#[]⟩) 16 rfl Tryd.underlying35 infS rfl (by decide) (by omega) (.slice A10 s.texts.length c10) s.texts [x] A 1 c (fun _ => True) (fun _ => False) ?aE ?aX ?aO ?aR (fun _ _ h => h) (fun _ h => h.elim) ?aF ?aB ?aS ?aL ?_; (case aE => exact rfl); (case aX => exact rfl); (case aF => exact (fun _ _ => trivial)); (case aB => (with_reducible repeat (first | exact hHeld.2.2.out | exact Below.refl _ _ | assumption | apply below_alloc | apply pw_below_drewN | apply below_drew1))); (case aS => exact below_size (by (with_reducible repeat (first | exact hHeld.2.2.out | exact Below.refl _ _ | assumption | apply below_alloc | apply pw_below_drewN | apply below_drew1)))); (case aL => have := HT.out; omega); (case aR => exact Kd.C_below HC.out (by (with_reducible repeat (first | exact hHeld.2.2.out | exact Below.refl _ _ | assumption | apply below_alloc | apply pw_below_drewN | apply below_drew1)))); (case aO => (with_reducible repeat (first | exact Aside0.out (by assumption) | apply Kd.R_drewN | apply Kd.R_drew | apply Kd.R_alloc | (refine row_over (by assumption) (ne_let_lit (by assumption) (by first | omega | (simp only [World.size_alloc, World.size_drew]; omega))) ?_) | (refine row_over (by assumption) (ne_let_let (by assumption) (by assumption) (by intro k h1 h2; first | omega | (simp only [World.size_alloc, World.size_drew] at h1 h2; omega))) ?_)))); intro v12 w12 ho hb hg hat; obtain ⟨m12, hm12⟩ : ∃ m, m = (s.texts ++ [x]).length := ⟨_, rfl⟩; obtain ⟨A12, c12, e12'⟩ := Kd.R_slice ho; rw [← hm12] at e12'; subst e12'; have HM12 := Aside0.mk hm12; clear hm12; have HG12 := Aside0.mk hg; have s12 := hg.size; have e12 : w12.heap[w.heap.size]? = some (.cells #[.slice none 0 0, .slice none 0 0] 37 (0, 0)) := (hg.block _ (by first | omega | (simp only [World.size_alloc, World.size_drew]; omega)) (by first | (refine own_lit ?_; omega) | (refine own_let (by assumption) ?_; first | omega | (simp only [World.size_alloc, World.size_drew]; omega)))).trans (by (with_reducible repeat (first | assumption | (refine heap_drewE ?_) | (refine blk_newE ?_; first | rfl | (simp only [World.size_alloc, World.size_drew]; done)) | (refine heap_allocE (by first | omega | (simp only [World.size_alloc, World.size_drew]; omega)) ?_) | (refine grown_look (by assumption) (by first | omega | (simp only [World.size_alloc, World.size_drew]; omega)) (by first | (refine own_lit ?_; omega) | (refine own_let (by assumption) ?_; first | omega | (simp only [World.size_alloc, World.size_drew]; omega))) ?_)))); have p12 := (blk_cell e12 0).trans (show _ = some (Value.slice none 0 0) from rfl); have q12 := (blk_cell e12 1).trans (show _ = some (Value.slice none 0 0) from rfl); have r12 := blk_frozen e12 0; have t12 := blk_frozen e12 1; have hA12 := HA_let (by assumption) hat ho; have HA12 := Aside0.mk hA12; have HO12 := Aside0.mk ho; try simp only [World.size_alloc, World.size_drew] at s12; clear hA12 ho hg hat) | (refine Kd.R_append_rows_step Kd.string (w0 := w) w.heap.size (by rfl) (.tmp 13) (.tmp 17) 35 9 (.string ⟨#[]⟩) 16 rfl Tryd.underlying35 infS rfl (by decide) (by omega) (emp _) [] s.lits Al s.lits.length cl (fun _ => True) (fun _ => False) (by exact rfl) ?aX ?aO ?aR (fun _ _ h => h) (fun _ h => h.elim) ?aF ?aB ?aS ?aL ?_; (case aX => exact rfl); (case aF => exact (fun _ _ => trivial)); (case aB => (with_reducible repeat (first | exact hHeld.2.2.out | exact Below.refl _ _ | assumption | apply below_alloc | apply pw_below_drewN | apply below_drew1))); (case aS => exact below_size (by (with_reducible repeat (first | exact hHeld.2.2.out | exact Below.refl _ _ | assumption | apply below_alloc | apply pw_below_drewN | apply below_drew1)))); (case aL => have := HL.out; simp; omega); (case aR => exact Kd.C_below HRL.out (by (with_reducible repeat (first | exact hHeld.2.2.out | exact Below.refl _ _ | assumption | apply below_alloc | apply pw_below_drewN | apply below_drew1)))); (case aO => exact R_empty (by with_reducible repeat (first | assumption | (refine heap_drewE ?_) | (refine blk_newE ?_; first | rfl | (simp only [World.size_alloc, World.size_drew]; done)) | (refine heap_allocE (by first | omega | (simp only [World.size_alloc, World.size_drew]; omega)) ?_) | (refine grown_look (by assumption) (by first | omega | (simp only [World.size_alloc, World.size_drew]; omega)) (by first | (refine own_lit ?_; omega) | (refine own_let (by assumption) ?_; first | omega | (simp only [World.size_alloc, World.size_drew]; omega))) ?_))) (by first | omega | (simp only [World.size_alloc, World.size_drew]; omega))); intro v18 w18 ho hb hg hat; rw [List.nil_append] at ho; obtain ⟨A18, c18, e18'⟩ := Kd.R_slice ho; subst e18'; have HG18 := Aside0.mk hg; have s18 := hg.size; have e18 : w18.heap[w.heap.size]? = some (.cells #[.slice none 0 0, .slice none 0 0] 37 (0, 0)) := (hg.block _ (by first | omega | (simp only [World.size_alloc, World.size_drew]; omega)) (by first | (refine own_lit ?_; omega) | (refine own_let (by assumption) ?_; first | omega | (simp only [World.size_alloc, World.size_drew]; omega)))).trans (by (with_reducible repeat (first | assumption | (refine heap_drewE ?_) | (refine blk_newE ?_; first | rfl | (simp only [World.size_alloc, World.size_drew]; done)) | (refine heap_allocE (by first | omega | (simp only [World.size_alloc, World.size_drew]; omega)) ?_) | (refine grown_look (by assumption) (by first | omega | (simp only [World.size_alloc, World.size_drew]; omega)) (by first | (refine own_lit ?_; omega) | (refine own_let (by assumption) ?_; first | omega | (simp only [World.size_alloc, World.size_drew]; omega))) ?_)))); have p18 := (blk_cell e18 0).trans (show _ = some (Value.slice none 0 0) from rfl); have q18 := (blk_cell e18 1).trans (show _ = some (Value.slice none 0 0) from rfl); have r18 := blk_frozen e18 0; have t18 := blk_frozen e18 1; have hA18 := HA_lit hat ho; have HA18 := Aside0.mk hA18; have HO18 := Aside0.mk ho; try simp only [World.size_alloc, World.size_drew] at s18; clear hA18 ho hg hat))
  all_goals (
    go_wp2_with fail
    have BR0 := blk_put (cs' := #[.slice A12 m12 c12, .slice none 0 0]) e18 0 (.slice A12 m12 c12) rfl
    have BR1 := blk_put (cs' := #[.slice A12 m12 c12, .slice A18 s.lits.length c18]) BR0 1 (.slice A18 s.lits.length c18) rfl
    have R12 : SRow w18 w.heap.size (.slice A12 m12 c12) (s.texts ++ [x]) := by
      refine row_over HG18 (ne_let_lit HA12 (by first | omega | (simp only [World.size_alloc, World.size_drew] at *; omega))) ?_
      first | exact HO12.out | exact Kd.R_alloc HO12.out _
    have S12 := Kd.R_set (Kd.R_set R12 e18 (by decide) 0 (.slice A12 m12 c12)) BR0 (by decide) 1 (.slice A18 s.lits.length c18)
    have S18 := Kd.R_set (Kd.R_set HO18.out e18 (by decide) 0 (.slice A12 m12 c12)) BR0 (by decide) 1 (.slice A18 s.lits.length c18)
    refine bodyPost_ret (results_cell_row rfl _ _ w.heap.size 37 #[.slice A12 m12 c12, .slice A18 s.lits.length c18] (0, 0) _ rfl BR1 Tryd.underlying37 rfl (by kernel_rfl)) rfl ?_
    have hm : m12 = s.texts.length + 1 := by have := HM12.out; simpa using this
    rw [hm] at S12 S18 ⊢
    exact ⟨A12, A18, c12, c18, rfl, S12, S18, below_setG (below_setG hb (by omega)) (by omega)⟩)
end Go.Proofs.YtakfdmhoooeejaaDoor.PP
