/- YtakfdmhoooeejaaDoorMyWireH, as far as WireEnds needs it (prune.py). -/
import Derived.Test.YtakfdmhoooeejaaDoorWireEndsMyWireG
namespace Go.Proofs.YtakfdmhoooeejaaDoor.PP
open Go.RowKit Go.Proofs.YtakfdmhoooeejaaDoorW.PrintWords Go.Proofs.YtakfdmhoooeejaaDoorW.PrintLast Go.Proofs.YtakfdmhoooeejaaDoorW.PrintMore
open Go.Proofs.YtakfdmhoooeejaaDoor.My
set_option linter.unusedVariables false
set_option linter.unusedSimpArgs false
theorem takeS_snoc (s : FS) (a : List UInt8) (c : UInt8) : takeS s (a ++ [c]) = ((stepS (takeS s a).1 c).1, (takeS s a).2 ++ (stepS (takeS s a).1 c).2) := by
  rw [takeS_app]
  simp [takeS]
theorem snoc_at (l : List UInt8) (i : Nat) (h : i < l.length) : l.take (i + 1) = l.take i ++ [l.getD i 0] := by
  rw [List.take_add_one, List.getElem?_eq_getElem h]
  simp [List.getD_eq_getElem?_getD, List.getElem?_eq_getElem h]
theorem rd_nb (l : List UInt8) (i : Nat) (x : Int) (hx : x = i) (h : i < l.length) : rd (nb l) x = ((l.getD i 0).toNat : Int) := by
  subst hx
  simp [rd, rdOf, nb, List.getD_eq_getElem?_getD, List.getElem?_eq_getElem h]
theorem enter_fn (m : Md) (W : World) (a b : Value) : (callFunc (fnOf m) #[a, b]).run Tryd.prog W = .ok (.enter (fnOf m) #[a, b]) W := by
  cases m <;> kernel_rfl
theorem add0 (b k : Nat) : (⟨b, 0, none⟩ : Addr).add k = ⟨b, k, none⟩ := by
  by_cases hk : k = 0
  · subst hk; rfl
  · simp [Addr.add, hk]
/-- Bytes that lie in block b, cell by cell. -/
theorem F_cells {W : World} {b : Nat} {l : List UInt8} {ok : Nat → Prop} (h : ∀ j, j < l.length → W.cell? ⟨b, j, none⟩ = some (.int .u8 (l.getD j 0).toNat)) (hm : l.length ≤ 1000000000) (hk : ok b) : Kd.F (Kd.int .u8) W ok (some ⟨b, 0, none⟩) l.length (nb l) := by
  intro W' hW
  refine ⟨nb_len l, by omega, fun hp => ⟨_, rfl, fun j p hj => ?_⟩⟩
  obtain ⟨hjl, hjp⟩ := List.getElem?_eq_some_iff.1 hj
  rw [nb_len] at hjl
  refine ⟨[.int .u8 p], rfl, rfl, fun i u hi => ?_⟩
  have hi0 : i = 0 := by
    have := (List.getElem?_eq_some_iff.1 hi).1
    simp at this
    exact this
  subst hi0
  simp only [List.getElem?_cons_zero, Option.some.injEq] at hi
  subst hi
  have h1 := h j hjl
  have h2 : W'.heap[b]? = W.heap[b]? := hW b hk (World.block_lt_of_cell? W _ h1)
  have h3 : W'.cell? ⟨b, j, none⟩ = W.cell? ⟨b, j, none⟩ := by simp [World.cell?, h2]
  rw [show j * (Kd.int .u8).sz + 0 = j from by show j * 1 + 0 = j; omega, add0, h3, h1, ← hjp]
  simp [nb, List.getD_eq_getElem?_getD, List.getElem?_eq_getElem hjl]
def zEv : Value := .agg #[.int .i64 0, .slice none 0 0, .slice none 0 0]
theorem infE : (Tryd.prog.info? 39).map (fun i => (i.zero, i.size, i.bytes)) = some (some zEv, 3, 56) := by kernel_rfl
theorem FX.low {N0 g : Nat} {w w1 w3 : World} {V V2 : FV} (h : FX N0 g w V w1 V2) (hN : N0 ≤ w.heap.size) (hb : Below w.heap.size w1 w3) : FX N0 g w V w3 V2 :=
  ⟨h.bel.trans (hb.mono hN), ⟨Nat.le_trans h.kept.1 (hb.size), fun k hk hs => (hb.block k hk).trans (h.kept.2 k hk hs)⟩, h.own⟩
set_option maxHeartbeats 4000000 in
set_option maxRecDepth 100000 in
theorem take_ok (N0 g n : Nat) (ok : Nat → Prop) (w : World) (V : FV) (s : FS) (A : Option Addr) (c : Nat) (l : List UInt8) (h : FW N0 w g V s) (hi : Inv s) (hN : N0 ≤ w.heap.size) (hn : n = l.length) (hl : l.length ≤ 1000000000)
    (hb : Kd.F (Kd.int .u8) w ok A n (nb l)) (ha : ∀ k, ok k → ¬ FB g V k) :
    Calls Tryd.prog 11 #[.pointer (some ⟨g, 0, none⟩), .slice A n c] w fun e w' => ∃ (vo : Value) (V' : FV), e = .returned vo ∧ EN w' w.heap.size g V' vo (takeS s l).2 ∧ FW N0 w' g V' (takeS s l).1 ∧ FX N0 g w V w' V' := by
  have HV := Aside0.mk h
  have HI := Aside0.mk hi
  have HN := Aside0.mk hN
  have HL := Aside0.mk hl
  have HLN := Aside0.mk hn
  have HC := Aside0.mk (fun (w' : World) (V' : FV) (hx : FX N0 g w V w' V') => (hb w' (fun k hk hlt => hx.kept.2 k hlt (ha k hk)) : Kd.C (Kd.int .u8) w' A n (nb l)))
  have c4 : w.cell? ⟨g, 4, none⟩ = some (.func (.func (fnOf s.md)) #[.pointer (some ⟨g, 0, none⟩)] #[]) := h.cell 4
  have f4 := h.fz 4
  have hnn : ∀ (W : World) (fn : Fn) (a b : Array Value), (binOp BinOp.eql 50 (.func fn a b) .nilFunc).run Tryd.prog W = .ok (.bool false) W := fun _ _ _ _ => by kernel_rfl
  clear h hi hN hl hb ha hn
  generalize hfn : fnOf s.md = fn at c4
  clear hfn
  go_enter Tryd.func11, Tryd.ntmps11
  go_wp2_with fail
  go_loopg [5, 19] l.length (fun kq v5 v19 wr => ∃ (x : Int) (i : Nat) (V1 : FV), v19 = .int .i64 x ∧ Aside0 (x = i ∧ i + kq = l.length) ∧ Aside0 (EN wr w.heap.size g V1 v5 (takeS s (l.take i)).2) ∧ Aside0 (FW N0 wr g V1 (takeS s (l.take i)).1) ∧ Aside0 (FX N0 g w V wr V1))
  case atStart => exact ⟨0, 0, V, rfl, ⟨rfl, by omega⟩, ⟨EN.none _ _ _ _⟩, HV, ⟨FX.refl _ _ _ _⟩⟩
  case round =>
    obtain ⟨x, i, V1, rfl, HX, HE, HW, HF⟩ := hrel
    cases gk with
    | zero =>
      have c1b : decide (x < (n : Int)) = false := decide_eq_false (by have := HX.out; have := HLN.out; omega)
      have HT : l.take i = l := List.take_of_length_le (by have := HX.out; omega)
      rw [HT] at HE HW
      clear HT
      go_wp2_with fail
      go_ret
      exact ⟨_, V1, rfl, HE.out, HW.out, HF.out⟩
    | succ k1 =>
      have q1 : x < (n : Int) := by have := HX.out; have := HLN.out; omega
      have q0 : 0 ≤ x := by have := HX.out; omega
      have c1b : decide (x < (n : Int)) = true := decide_eq_true q1
      obtain ⟨ad, rfl, hx0⟩ := Kd.at_int (HC.out wr V1 HF.out) x q0 q1
      rw [rd_nb l i x HX.out.1 (by have := HX.out; omega)] at hx0
      have HI1 := Aside0.mk (Inv.take (l.take i) HI.out)
      have HSN := Aside0.mk (takeS_snoc s (l.take i) (l.getD i 0))
      rw [← snoc_at l i (by have := HX.out; omega)] at HSN
      have HLE := Aside0.mk (show (takeS s (l.take i)).2.length ≤ 1000000000 by have := evs_take (l.take i) s; have := HL.out; simp only [List.length_take] at *; omega)
      generalize l.getD i 0 = ch at hx0 HSN
      generalize takeS s (l.take i) = q at HE HW HSN HLE HI1
      obtain ⟨s1, ev⟩ := q
      dsimp only at HE HW HSN HLE HI1
      have d4 : wr.cell? ⟨g, 4, none⟩ = some (.func (.func (fnOf s1.md)) #[.pointer (some ⟨g, 0, none⟩)] #[]) := HW.out.cell 4
      have e4 := HW.out.fz 4
      have q0b := eq_true q0
      have q1b := eq_true q1
      have hen := fun (W : World) (a b : Value) => enter_fn s1.md W a b
      clear q0 q1 c4 f4
      go_upto_region 1 with fail
      refine (step_ok N0 g wr V1 s1 ch HW.out HI1.out).mono ?_
      rintro e w1 ⟨vo, V2, rfl, he, hw, hx⟩
      have HE2 := Aside0.mk (EN.after HE.out hx)
      have HO5 := Aside0.mk (Kd.N_lt HE.out)
      have HE3 := Aside0.mk he
      have HW2 := Aside0.mk hw
      have HX2 := Aside0.mk (HF.out.trans hx)
      have HSZ := Aside0.mk (show w.heap.size ≤ wr.heap.size from HF.out.kept.1)
      have HS1 := Aside0.mk (evs_step s1 ch)
      clear he hw hx
      generalize stepS s1 ch = q2 at HE2 HE3 HW2 HSN HS1
      obtain ⟨s2, ev2⟩ := q2
      dsimp only at HE3 HW2 HSN HS1
      obtain ⟨Ao, co, eo⟩ := Kd.N_slice HE2.out
      subst eo
      obtain ⟨Av, cv, ev'⟩ := Kd.N_slice HE3.out
      subst ev'
      clear d4 e4 hen hx0
      go_wp2_with (first | ((with_reducible refine gate_builtin (b := .append) (xs := #[.tmp 23, .tmp 29]) rfl ?_); (try (refine gate_guard (by rfl) ?_; dsimp only)); at_builtin; refine Kd.N_append_rows k39 (w0 := w1) w.heap.size rfl (.tmp 23) (.tmp 29) 29 39 zEv 56 rfl Tryd.underlying29 infE rfl (by decide) (by omega) (.slice Ao ev.length co) ev ev2 Av ev2.length cv (fun k => w.heap.size ≤ k ∧ ¬ FB g V2 k) (fun k => wr.heap.size ≤ k ∧ ¬ FB g V2 k) rfl rfl HE2.out (Kd.N_F HE3.out) ?aK ?aF (Below.refl _ _) ?aS ?aL ?_; (case aK => exact fun k hk => ⟨⟨Nat.le_trans HSZ.out hk.1, hk.2⟩, fun e => by have := HO5.out k e.symm; have := hk.1; omega⟩); (case aF => exact fun k hk => ⟨by have := HX2.out.kept.1; omega, fun hf => by have := HW2.out.fb_lt k hf; omega⟩); (case aS => exact HX2.out.kept.1); (case aL => have := HLE.out; have := HS1.out; omega); intro v30 w3 ho hb hg hat; have HO3 := Aside0.mk ho; have HX3 := Aside0.mk (HX2.out.low HN.out hb); have HW3 := Aside0.mk (HW2.out.keep (fun k hk => hg.block k (HW2.out.fb_lt k hk) (fun e => (HE2.out.1 k e.symm).2 hk))); clear ho hb hg hat))
      go_roundg k1
      case measure => omega
      case rel => exact ⟨wrap64 (x + 1), i + 1, V2, rfl, ⟨by have := HX.out; have := HL.out; unfold wrap64; omega⟩, ⟨by rw [HSN.out]; exact HO3.out⟩, ⟨by rw [HSN.out]; exact HW3.out⟩, HX3⟩
end Go.Proofs.YtakfdmhoooeejaaDoor.PP
