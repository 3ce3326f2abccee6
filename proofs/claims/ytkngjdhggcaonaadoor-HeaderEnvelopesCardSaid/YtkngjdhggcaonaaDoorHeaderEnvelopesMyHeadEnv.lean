/- YtkngjdhggcaonaaDoorMyHeadEnv, as far as HeaderEnvelopes needs it (prune.py). -/
import Derived.Test.YtkngjdhggcaonaaDoorHeaderEnvelopesPPx43
import Derived.Test.YtkngjdhggcaonaaDoorHeaderEnvelopesPPx42
import Derived.Test.YtkngjdhggcaonaaDoorHeaderEnvelopesPPx41
import Derived.Test.YtkngjdhggcaonaaDoorHeaderEnvelopesPPx41
import Derived.Test.YtkngjdhggcaonaaDoorHeaderEnvelopesPPx39
namespace Go.Proofs.YtkngjdhggcaonaaDoor.PP
open Go.RowKit Go.Proofs.YtkngjdhggcaonaaDoorW.PrintWords Go.Proofs.YtkngjdhggcaonaaDoorW.PrintLast Go.Proofs.YtkngjdhggcaonaaDoorW.PrintMore
open Go.Proofs.YtkngjdhggcaonaaDoor.My
set_option linter.unusedVariables false
set_option linter.unusedSimpArgs false
/-- All blocks but those of type api.Envelope stay as they were. -/
def Mv (w w' : World) : Prop := ∀ (k : Nat) (cells : Array Value) (q : TypeId), q ≠ 49 → w.heap[k]? = some (.cells cells q (0, 0)) → w'.heap[k]? = w.heap[k]?
theorem Mv.refl (w : World) : Mv w w := fun _ _ _ _ _ => rfl
theorem Mv.trans {a b c : World} (h : Mv a b) (k : Mv b c) : Mv a c := fun i cells q hq hc => by
  have h1 := h i cells q hq hc
  have h2 := k i cells q hq (h1.trans hc)
  exact h2.trans h1
theorem Mv.below {a b : World} (h : Below a.heap.size a b) : Mv a b := fun i cells q hq hc => h.block i (Array.getElem?_eq_some_iff.1 hc).1
theorem Mv.alloc (a : World) (x : Obj) : Mv a (a.alloc x) := Mv.below ((Below.refl _ a).alloc (Nat.le_refl _) x)
theorem Mv.set {a : World} {g : Nat} {cs : Array Value} {fz : Nat × Nat} (h : a.heap[g]? = some (.cells cs 49 fz)) (i : Nat) (u : Value) : Mv a (a.setCell ⟨g, i, none⟩ u) := fun k cells q hq hc => by
  refine Below.heap_setCell a ⟨g, i, none⟩ u k ?_
  rintro rfl
  rw [h] at hc
  injection hc with hc
  injection hc with _ hc
  exact hq hc.symm
theorem Mv.R {α : Type} {d : Kd α} {e base : Nat} {a b : World} {v : Value} {xs : List α} (h : Kd.R d e a base (fun _ => True) v xs) (m : Mv a b) (ht : ∀ q, q ∈ e :: d.E → q ≠ 49) : Kd.R d e b base (fun _ => True) v xs := by
  refine Kd.R_mono (Kd.R_move (Kd.R_bound h) (fun k hk => ?_)) (fun _ _ => trivial)
  obtain ⟨_, _, _, q, hq, cells, hc⟩ := hk
  exact m k cells q (ht q hq) hc
/-- What is told of fields, as a value in memory. -/
def EnvR (w : World) (v : Value) (r : List ByteArray × List ByteArray × List S33 × List S33 × List S33 × List S33 × List S33 × List S33 × List ByteArray × List ByteArray) : Prop :=
  ∃ A0 c0 A1 c1 A2 c2 A3 c3 A4 c4 A5 c5 A6 c6 A7 c7 A8 c8 A9 c9, v = .agg #[.slice A0 r.1.length c0, .slice A1 r.2.1.length c1, .slice A2 r.2.2.1.length c2, .slice A3 r.2.2.2.1.length c3, .slice A4 r.2.2.2.2.1.length c4, .slice A5 r.2.2.2.2.2.1.length c5, .slice A6 r.2.2.2.2.2.2.1.length c6, .slice A7 r.2.2.2.2.2.2.2.1.length c7, .slice A8 r.2.2.2.2.2.2.2.2.1.length c8, .slice A9 r.2.2.2.2.2.2.2.2.2.length c9] ∧
    ((Kd.C Kd.string w A0 r.1.length r.1 ∧ r.1.length ≤ c0) ∧ (Kd.C Kd.string w A1 r.2.1.length r.2.1 ∧ r.2.1.length ≤ c1) ∧ (Kd.C k33 w A2 r.2.2.1.length r.2.2.1 ∧ r.2.2.1.length ≤ c2) ∧ (Kd.C k33 w A3 r.2.2.2.1.length r.2.2.2.1 ∧ r.2.2.2.1.length ≤ c3) ∧ (Kd.C k33 w A4 r.2.2.2.2.1.length r.2.2.2.2.1 ∧ r.2.2.2.2.1.length ≤ c4) ∧ (Kd.C k33 w A5 r.2.2.2.2.2.1.length r.2.2.2.2.2.1 ∧ r.2.2.2.2.2.1.length ≤ c5) ∧ (Kd.C k33 w A6 r.2.2.2.2.2.2.1.length r.2.2.2.2.2.2.1 ∧ r.2.2.2.2.2.2.1.length ≤ c6) ∧ (Kd.C k33 w A7 r.2.2.2.2.2.2.2.1.length r.2.2.2.2.2.2.2.1 ∧ r.2.2.2.2.2.2.2.1.length ≤ c7) ∧ (Kd.C Kd.string w A8 r.2.2.2.2.2.2.2.2.1.length r.2.2.2.2.2.2.2.2.1 ∧ r.2.2.2.2.2.2.2.2.1.length ≤ c8) ∧ (Kd.C Kd.string w A9 r.2.2.2.2.2.2.2.2.2.length r.2.2.2.2.2.2.2.2.2 ∧ r.2.2.2.2.2.2.2.2.2.length ≤ c9))
theorem EnvR.below {w w' : World} {v : Value} {r} (h : EnvR w v r) (hb : Below w.heap.size w w') : EnvR w' v r := by
  obtain ⟨A0, c0, A1, c1, A2, c2, A3, c3, A4, c4, A5, c5, A6, c6, A7, c7, A8, c8, A9, c9, rfl, ⟨a0, b0⟩, ⟨a1, b1⟩, ⟨a2, b2⟩, ⟨a3, b3⟩, ⟨a4, b4⟩, ⟨a5, b5⟩, ⟨a6, b6⟩, ⟨a7, b7⟩, ⟨a8, b8⟩, ⟨a9, b9⟩⟩ := h
  exact ⟨A0, c0, A1, c1, A2, c2, A3, c3, A4, c4, A5, c5, A6, c6, A7, c7, A8, c8, A9, c9, rfl, ⟨Kd.C_below a0 hb, b0⟩, ⟨Kd.C_below a1 hb, b1⟩, ⟨Kd.C_below a2 hb, b2⟩, ⟨Kd.C_below a3 hb, b3⟩, ⟨Kd.C_below a4 hb, b4⟩, ⟨Kd.C_below a5 hb, b5⟩, ⟨Kd.C_below a6 hb, b6⟩, ⟨Kd.C_below a7 hb, b7⟩, ⟨Kd.C_below a8 hb, b8⟩, ⟨Kd.C_below a9 hb, b9⟩⟩
def z10 : Array Value := #[.slice none 0 0, .slice none 0 0, .slice none 0 0, .slice none 0 0, .slice none 0 0, .slice none 0 0, .slice none 0 0, .slice none 0 0, .slice none 0 0, .slice none 0 0]
set_option maxHeartbeats 16000000 in
set_option maxRecDepth 100000 in
theorem header_Envelope.callsE (k : Nat) (A0 : Option Addr) (c0 : Nat) (l0 : List S37) (r) (w : World) (hr0 : Kd.C k37 w A0 l0.length l0) (hc0 : l0.length ≤ c0) (h : header_Envelope.f k l0 = some r) :
  Calls Tryd.prog 29 #[.slice A0 l0.length c0] w fun e w' => ∃ v, e = .returned v ∧ EnvR w' v r ∧ Below w.heap.size w w' := by
 have hu49 := Tryd.underlying49
 have HR0 := Aside0.mk hr0
 have HC0 := Aside0.mk hc0
 clear hr0 hc0
 have H := h
 clear h
 unfold header_Envelope.f at H
 obtain ⟨t_date, a_date, H⟩ := Option.bind_eq_some_iff.1 H
 have A_date := Aside0.mk a_date
 clear a_date
 obtain ⟨t_subject, a_subject, H⟩ := Option.bind_eq_some_iff.1 H
 have A_subject := Aside0.mk a_subject
 clear a_subject
 obtain ⟨t_in, a_in, H⟩ := Option.bind_eq_some_iff.1 H
 have A_in := Aside0.mk a_in
 clear a_in
 obtain ⟨t_id, a_id, H⟩ := Option.bind_eq_some_iff.1 H
 have A_id := Aside0.mk a_id
 clear a_id
 obtain ⟨t_from, a_from, H⟩ := Option.bind_eq_some_iff.1 H
 have A_from := Aside0.mk a_from
 clear a_from
 obtain ⟨t_sender, a_sender, H⟩ := Option.bind_eq_some_iff.1 H
 have A_sender := Aside0.mk a_sender
 clear a_sender
 obtain ⟨t_reply, a_reply, H⟩ := Option.bind_eq_some_iff.1 H
 have A_reply := Aside0.mk a_reply
 clear a_reply
 obtain ⟨t_to, a_to, H⟩ := Option.bind_eq_some_iff.1 H
 have A_to := Aside0.mk a_to
 clear a_to
 obtain ⟨t_cc, a_cc, H⟩ := Option.bind_eq_some_iff.1 H
 have A_cc := Aside0.mk a_cc
 clear a_cc
 obtain ⟨t_bcc, a_bcc, H⟩ := Option.bind_eq_some_iff.1 H
 have A_bcc := Aside0.mk a_bcc
 clear a_bcc
 have HH := Aside0.mk H
 clear H
 have HGl : w.heap.size < (w.alloc (.cells z10 49)).heap.size := by simp
 have BR := Aside0.mk (show (w.alloc (.cells z10 49)).heap[w.heap.size]? = some (.cells z10 49 (0, 0)) from heap_alloc_new w _)
 have HB := Aside0.mk ((Below.refl w.heap.size w).alloc (Nat.le_refl _) (.cells z10 49))
 go_enter Tryd.func29, Tryd.ntmps29
 go_wp2_with fail
 refine (header_first.calls k _ _ l0 (⟨#[100, 97, 116, 101]⟩ : ByteArray) t_date _ (Kd.C_below HR0.out HB.out) HC0.out A_date.out).mono ?_
 rintro e w_date ⟨v_date, rfl, hr_date, hb_date⟩
 have BR := Aside0.mk (blk_below BR.out hb_date)
 have R_date := Aside0.mk (Kd.R_lower hr_date HB.out.size)
 have HB := Aside0.mk (HB.out.trans (hb_date.mono HB.out.size))
 obtain ⟨Ao_date, co_date, eo_date⟩ := Kd.R_slice hr_date
 subst eo_date
 clear hr_date hb_date A_date
 go_wp2_with fail
 refine (header_first.calls k _ _ l0 (⟨#[115, 117, 98, 106, 101, 99, 116]⟩ : ByteArray) t_subject _ (Kd.C_below HR0.out HB.out) HC0.out A_subject.out).mono ?_
 rintro e w_subject ⟨v_subject, rfl, hr_subject, hb_subject⟩
 have R_date := Aside0.mk (Mv.R R_date.out (Mv.below hb_subject) (by decide))
 have BR := Aside0.mk (blk_below BR.out hb_subject)
 have R_subject := Aside0.mk (Kd.R_lower hr_subject HB.out.size)
 have HB := Aside0.mk (HB.out.trans (hb_subject.mono HB.out.size))
 obtain ⟨Ao_subject, co_subject, eo_subject⟩ := Kd.R_slice hr_subject
 subst eo_subject
 clear hr_subject hb_subject A_subject
 go_wp2_with fail
 refine (header_first.calls k _ _ l0 (⟨#[105, 110, 45, 114, 101, 112, 108, 121, 45, 116, 111]⟩ : ByteArray) t_in _ (Kd.C_below HR0.out HB.out) HC0.out A_in.out).mono ?_
 rintro e w_in ⟨v_in, rfl, hr_in, hb_in⟩
 have R_date := Aside0.mk (Mv.R R_date.out (Mv.below hb_in) (by decide))
 have R_subject := Aside0.mk (Mv.R R_subject.out (Mv.below hb_in) (by decide))
 have BR := Aside0.mk (blk_below BR.out hb_in)
 have R_in := Aside0.mk (Kd.R_lower hr_in HB.out.size)
 have HB := Aside0.mk (HB.out.trans (hb_in.mono HB.out.size))
 obtain ⟨Ao_in, co_in, eo_in⟩ := Kd.R_slice hr_in
 subst eo_in
 clear hr_in hb_in A_in
 go_wp2_with fail
 refine (header_first.calls k _ _ l0 (⟨#[109, 101, 115, 115, 97, 103, 101, 45, 105, 100]⟩ : ByteArray) t_id _ (Kd.C_below HR0.out HB.out) HC0.out A_id.out).mono ?_
 rintro e w_id ⟨v_id, rfl, hr_id, hb_id⟩
 have R_date := Aside0.mk (Mv.R R_date.out (Mv.below hb_id) (by decide))
 have R_subject := Aside0.mk (Mv.R R_subject.out (Mv.below hb_id) (by decide))
 have R_in := Aside0.mk (Mv.R R_in.out (Mv.below hb_id) (by decide))
 have BR := Aside0.mk (blk_below BR.out hb_id)
 have R_id := Aside0.mk (Kd.R_lower hr_id HB.out.size)
 have HB := Aside0.mk (HB.out.trans (hb_id.mono HB.out.size))
 obtain ⟨Ao_id, co_id, eo_id⟩ := Kd.R_slice hr_id
 subst eo_id
 clear hr_id hb_id A_id
 have hG : w_id.heap.size = w_id.heap.size := rfl
 have R_date := Aside0.mk (Mv.R R_date.out (Mv.alloc w_id (.cells #[.slice Ao_date t_date.length co_date, .slice Ao_subject t_subject.length co_subject, .slice none 0 0, .slice none 0 0, .slice none 0 0, .slice none 0 0, .slice none 0 0, .slice none 0 0, .slice Ao_in t_in.length co_in, .slice Ao_id t_id.length co_id] 49)) (by decide))
 have R_subject := Aside0.mk (Mv.R R_subject.out (Mv.alloc w_id (.cells #[.slice Ao_date t_date.length co_date, .slice Ao_subject t_subject.length co_subject, .slice none 0 0, .slice none 0 0, .slice none 0 0, .slice none 0 0, .slice none 0 0, .slice none 0 0, .slice Ao_in t_in.length co_in, .slice Ao_id t_id.length co_id] 49)) (by decide))
 have R_in := Aside0.mk (Mv.R R_in.out (Mv.alloc w_id (.cells #[.slice Ao_date t_date.length co_date, .slice Ao_subject t_subject.length co_subject, .slice none 0 0, .slice none 0 0, .slice none 0 0, .slice none 0 0, .slice none 0 0, .slice none 0 0, .slice Ao_in t_in.length co_in, .slice Ao_id t_id.length co_id] 49)) (by decide))
 have R_id := Aside0.mk (Mv.R R_id.out (Mv.alloc w_id (.cells #[.slice Ao_date t_date.length co_date, .slice Ao_subject t_subject.length co_subject, .slice none 0 0, .slice none 0 0, .slice none 0 0, .slice none 0 0, .slice none 0 0, .slice none 0 0, .slice Ao_in t_in.length co_in, .slice Ao_id t_id.length co_id] 49)) (by decide))
 have BG := Aside0.mk (show (w_id.alloc (.cells #[.slice Ao_date t_date.length co_date, .slice Ao_subject t_subject.length co_subject, .slice none 0 0, .slice none 0 0, .slice none 0 0, .slice none 0 0, .slice none 0 0, .slice none 0 0, .slice Ao_in t_in.length co_in, .slice Ao_id t_id.length co_id] 49)).heap[w_id.heap.size]? = some (.cells #[.slice Ao_date t_date.length co_date, .slice Ao_subject t_subject.length co_subject, .slice none 0 0, .slice none 0 0, .slice none 0 0, .slice none 0 0, .slice none 0 0, .slice none 0 0, .slice Ao_in t_in.length co_in, .slice Ao_id t_id.length co_id] 49 (0, 0)) from heap_alloc_new _ _)
 have NE := Aside0.mk (Nat.ne_of_lt (blk_lt BR.out))
 have BR := Aside0.mk (blk_alloc BR.out (.cells #[.slice Ao_date t_date.length co_date, .slice Ao_subject t_subject.length co_subject, .slice none 0 0, .slice none 0 0, .slice none 0 0, .slice none 0 0, .slice none 0 0, .slice none 0 0, .slice Ao_in t_in.length co_in, .slice Ao_id t_id.length co_id] 49))
 have GE := Aside0.mk HB.out.size
 have HB := Aside0.mk (HB.out.alloc HB.out.size (.cells #[.slice Ao_date t_date.length co_date, .slice Ao_subject t_subject.length co_subject, .slice none 0 0, .slice none 0 0, .slice none 0 0, .slice none 0 0, .slice none 0 0, .slice none 0 0, .slice Ao_in t_in.length co_in, .slice Ao_id t_id.length co_id] 49))
 go_wp2_with fail
 refine (header_people.calls k _ _ l0 (⟨#[102, 114, 111, 109]⟩ : ByteArray) t_from _ (Kd.C_below HR0.out HB.out) HC0.out A_from.out).mono ?_
 rintro e w_from ⟨v_from, rfl, hr_from, hb_from⟩
 have R_date := Aside0.mk (Mv.R R_date.out (Mv.below hb_from) (by decide))
 have R_subject := Aside0.mk (Mv.R R_subject.out (Mv.below hb_from) (by decide))
 have R_in := Aside0.mk (Mv.R R_in.out (Mv.below hb_from) (by decide))
 have R_id := Aside0.mk (Mv.R R_id.out (Mv.below hb_from) (by decide))
 have BR := Aside0.mk (blk_below BR.out hb_from)
 have BG := Aside0.mk (blk_below BG.out hb_from)
 have R_from := Aside0.mk (Kd.R_lower hr_from HB.out.size)
 have HB := Aside0.mk (HB.out.trans (hb_from.mono HB.out.size))
 obtain ⟨Ao_from, co_from, eo_from⟩ := Kd.R_slice hr_from
 subst eo_from
 clear hr_from hb_from A_from
 go_wp2_with fail
 refine (header_people.calls k _ _ l0 (⟨#[115, 101, 110, 100, 101, 114]⟩ : ByteArray) t_sender _ (Kd.C_below HR0.out HB.out) HC0.out A_sender.out).mono ?_
 rintro e w_sender ⟨v_sender, rfl, hr_sender, hb_sender⟩
 have R_date := Aside0.mk (Mv.R R_date.out (Mv.below hb_sender) (by decide))
 have R_subject := Aside0.mk (Mv.R R_subject.out (Mv.below hb_sender) (by decide))
 have R_in := Aside0.mk (Mv.R R_in.out (Mv.below hb_sender) (by decide))
 have R_id := Aside0.mk (Mv.R R_id.out (Mv.below hb_sender) (by decide))
 have R_from := Aside0.mk (Mv.R R_from.out (Mv.below hb_sender) (by decide))
 have BR := Aside0.mk (blk_below BR.out hb_sender)
 have BG := Aside0.mk (blk_below BG.out hb_sender)
 have R_sender := Aside0.mk (Kd.R_lower hr_sender HB.out.size)
 have HB := Aside0.mk (HB.out.trans (hb_sender.mono HB.out.size))
 obtain ⟨Ao_sender, co_sender, eo_sender⟩ := Kd.R_slice hr_sender
 subst eo_sender
 clear hr_sender hb_sender A_sender
 go_wp2_with fail
 refine (header_people.calls k _ _ l0 (⟨#[114, 101, 112, 108, 121, 45, 116, 111]⟩ : ByteArray) t_reply _ (Kd.C_below HR0.out HB.out) HC0.out A_reply.out).mono ?_
 rintro e w_reply ⟨v_reply, rfl, hr_reply, hb_reply⟩
 have R_date := Aside0.mk (Mv.R R_date.out (Mv.below hb_reply) (by decide))
 have R_subject := Aside0.mk (Mv.R R_subject.out (Mv.below hb_reply) (by decide))
 have R_in := Aside0.mk (Mv.R R_in.out (Mv.below hb_reply) (by decide))
 have R_id := Aside0.mk (Mv.R R_id.out (Mv.below hb_reply) (by decide))
 have R_from := Aside0.mk (Mv.R R_from.out (Mv.below hb_reply) (by decide))
 have R_sender := Aside0.mk (Mv.R R_sender.out (Mv.below hb_reply) (by decide))
 have BR := Aside0.mk (blk_below BR.out hb_reply)
 have BG := Aside0.mk (blk_below BG.out hb_reply)
 have R_reply := Aside0.mk (Kd.R_lower hr_reply HB.out.size)
 have HB := Aside0.mk (HB.out.trans (hb_reply.mono HB.out.size))
 obtain ⟨Ao_reply, co_reply, eo_reply⟩ := Kd.R_slice hr_reply
 subst eo_reply
 clear hr_reply hb_reply A_reply
 have hc0 := (blk_cell BG.out 0).trans rfl
 have hc1 := (blk_cell BG.out 1).trans rfl
 have hc2 := (blk_cell BG.out 2).trans rfl
 have hc3 := (blk_cell BG.out 3).trans rfl
 have hc4 := (blk_cell BG.out 4).trans rfl
 have hc5 := (blk_cell BG.out 5).trans rfl
 have hc6 := (blk_cell BG.out 6).trans rfl
 have hc7 := (blk_cell BG.out 7).trans rfl
 have hc8 := (blk_cell BG.out 8).trans rfl
 have hc9 := (blk_cell BG.out 9).trans rfl
 have hf := blk_frozen BG.out
 go_wp2_with fail
 clear hc0 hc1 hc2 hc3 hc4 hc5 hc6 hc7 hc8 hc9 hf
 have R_date := Aside0.mk (Mv.R R_date.out (Mv.set BG.out 2 (.slice Ao_from t_from.length co_from)) (by decide))
 have R_subject := Aside0.mk (Mv.R R_subject.out (Mv.set BG.out 2 (.slice Ao_from t_from.length co_from)) (by decide))
 have R_in := Aside0.mk (Mv.R R_in.out (Mv.set BG.out 2 (.slice Ao_from t_from.length co_from)) (by decide))
 have R_id := Aside0.mk (Mv.R R_id.out (Mv.set BG.out 2 (.slice Ao_from t_from.length co_from)) (by decide))
 have R_from := Aside0.mk (Mv.R R_from.out (Mv.set BG.out 2 (.slice Ao_from t_from.length co_from)) (by decide))
 have R_sender := Aside0.mk (Mv.R R_sender.out (Mv.set BG.out 2 (.slice Ao_from t_from.length co_from)) (by decide))
 have R_reply := Aside0.mk (Mv.R R_reply.out (Mv.set BG.out 2 (.slice Ao_from t_from.length co_from)) (by decide))
 have BR := Aside0.mk (blk_far BR.out (p := ⟨w_id.heap.size, 2, none⟩) NE.out (.slice Ao_from t_from.length co_from))
 have BG := Aside0.mk (blk_put (cs' := #[.slice Ao_date t_date.length co_date, .slice Ao_subject t_subject.length co_subject, .slice Ao_from t_from.length co_from, .slice none 0 0, .slice none 0 0, .slice none 0 0, .slice none 0 0, .slice none 0 0, .slice Ao_in t_in.length co_in, .slice Ao_id t_id.length co_id]) BG.out 2 (.slice Ao_from t_from.length co_from) rfl)
 have HB := Aside0.mk (below_set (g := w_id.heap.size) (j := 2) (v := .slice Ao_from t_from.length co_from) HB.out GE.out)
 have R_date := Aside0.mk (Mv.R R_date.out (Mv.set BG.out 3 (.slice Ao_sender t_sender.length co_sender)) (by decide))
 have R_subject := Aside0.mk (Mv.R R_subject.out (Mv.set BG.out 3 (.slice Ao_sender t_sender.length co_sender)) (by decide))
 have R_in := Aside0.mk (Mv.R R_in.out (Mv.set BG.out 3 (.slice Ao_sender t_sender.length co_sender)) (by decide))
 have R_id := Aside0.mk (Mv.R R_id.out (Mv.set BG.out 3 (.slice Ao_sender t_sender.length co_sender)) (by decide))
 have R_from := Aside0.mk (Mv.R R_from.out (Mv.set BG.out 3 (.slice Ao_sender t_sender.length co_sender)) (by decide))
 have R_sender := Aside0.mk (Mv.R R_sender.out (Mv.set BG.out 3 (.slice Ao_sender t_sender.length co_sender)) (by decide))
 have R_reply := Aside0.mk (Mv.R R_reply.out (Mv.set BG.out 3 (.slice Ao_sender t_sender.length co_sender)) (by decide))
 have BR := Aside0.mk (blk_far BR.out (p := ⟨w_id.heap.size, 3, none⟩) NE.out (.slice Ao_sender t_sender.length co_sender))
 have BG := Aside0.mk (blk_put (cs' := #[.slice Ao_date t_date.length co_date, .slice Ao_subject t_subject.length co_subject, .slice Ao_from t_from.length co_from, .slice Ao_sender t_sender.length co_sender, .slice none 0 0, .slice none 0 0, .slice none 0 0, .slice none 0 0, .slice Ao_in t_in.length co_in, .slice Ao_id t_id.length co_id]) BG.out 3 (.slice Ao_sender t_sender.length co_sender) rfl)
 have HB := Aside0.mk (below_set (g := w_id.heap.size) (j := 3) (v := .slice Ao_sender t_sender.length co_sender) HB.out GE.out)
 have R_date := Aside0.mk (Mv.R R_date.out (Mv.set BG.out 4 (.slice Ao_reply t_reply.length co_reply)) (by decide))
 have R_subject := Aside0.mk (Mv.R R_subject.out (Mv.set BG.out 4 (.slice Ao_reply t_reply.length co_reply)) (by decide))
 have R_in := Aside0.mk (Mv.R R_in.out (Mv.set BG.out 4 (.slice Ao_reply t_reply.length co_reply)) (by decide))
 have R_id := Aside0.mk (Mv.R R_id.out (Mv.set BG.out 4 (.slice Ao_reply t_reply.length co_reply)) (by decide))
 have R_from := Aside0.mk (Mv.R R_from.out (Mv.set BG.out 4 (.slice Ao_reply t_reply.length co_reply)) (by decide))
 have R_sender := Aside0.mk (Mv.R R_sender.out (Mv.set BG.out 4 (.slice Ao_reply t_reply.length co_reply)) (by decide))
 have R_reply := Aside0.mk (Mv.R R_reply.out (Mv.set BG.out 4 (.slice Ao_reply t_reply.length co_reply)) (by decide))
 have BR := Aside0.mk (blk_far BR.out (p := ⟨w_id.heap.size, 4, none⟩) NE.out (.slice Ao_reply t_reply.length co_reply))
 have BG := Aside0.mk (blk_put (cs' := #[.slice Ao_date t_date.length co_date, .slice Ao_subject t_subject.length co_subject, .slice Ao_from t_from.length co_from, .slice Ao_sender t_sender.length co_sender, .slice Ao_reply t_reply.length co_reply, .slice none 0 0, .slice none 0 0, .slice none 0 0, .slice Ao_in t_in.length co_in, .slice Ao_id t_id.length co_id]) BG.out 4 (.slice Ao_reply t_reply.length co_reply) rfl)
 have HB := Aside0.mk (below_set (g := w_id.heap.size) (j := 4) (v := .slice Ao_reply t_reply.length co_reply) HB.out GE.out)
 refine (header_people.calls k _ _ l0 (⟨#[116, 111]⟩ : ByteArray) t_to _ (Kd.C_below HR0.out HB.out) HC0.out A_to.out).mono ?_
 rintro e w_to ⟨v_to, rfl, hr_to, hb_to⟩
 have R_date := Aside0.mk (Mv.R R_date.out (Mv.below hb_to) (by decide))
 have R_subject := Aside0.mk (Mv.R R_subject.out (Mv.below hb_to) (by decide))
 have R_in := Aside0.mk (Mv.R R_in.out (Mv.below hb_to) (by decide))
 have R_id := Aside0.mk (Mv.R R_id.out (Mv.below hb_to) (by decide))
 have R_from := Aside0.mk (Mv.R R_from.out (Mv.below hb_to) (by decide))
 have R_sender := Aside0.mk (Mv.R R_sender.out (Mv.below hb_to) (by decide))
 have R_reply := Aside0.mk (Mv.R R_reply.out (Mv.below hb_to) (by decide))
 have BR := Aside0.mk (blk_below BR.out hb_to)
 have BG := Aside0.mk (blk_below BG.out hb_to)
 have R_to := Aside0.mk (Kd.R_lower hr_to HB.out.size)
 have HB := Aside0.mk (HB.out.trans (hb_to.mono HB.out.size))
 obtain ⟨Ao_to, co_to, eo_to⟩ := Kd.R_slice hr_to
 subst eo_to
 clear hr_to hb_to A_to
 go_wp2_with fail
 refine (header_people.calls k _ _ l0 (⟨#[99, 99]⟩ : ByteArray) t_cc _ (Kd.C_below HR0.out HB.out) HC0.out A_cc.out).mono ?_
 rintro e w_cc ⟨v_cc, rfl, hr_cc, hb_cc⟩
 have R_date := Aside0.mk (Mv.R R_date.out (Mv.below hb_cc) (by decide))
 have R_subject := Aside0.mk (Mv.R R_subject.out (Mv.below hb_cc) (by decide))
 have R_in := Aside0.mk (Mv.R R_in.out (Mv.below hb_cc) (by decide))
 have R_id := Aside0.mk (Mv.R R_id.out (Mv.below hb_cc) (by decide))
 have R_from := Aside0.mk (Mv.R R_from.out (Mv.below hb_cc) (by decide))
 have R_sender := Aside0.mk (Mv.R R_sender.out (Mv.below hb_cc) (by decide))
 have R_reply := Aside0.mk (Mv.R R_reply.out (Mv.below hb_cc) (by decide))
 have R_to := Aside0.mk (Mv.R R_to.out (Mv.below hb_cc) (by decide))
 have BR := Aside0.mk (blk_below BR.out hb_cc)
 have BG := Aside0.mk (blk_below BG.out hb_cc)
 have R_cc := Aside0.mk (Kd.R_lower hr_cc HB.out.size)
 have HB := Aside0.mk (HB.out.trans (hb_cc.mono HB.out.size))
 obtain ⟨Ao_cc, co_cc, eo_cc⟩ := Kd.R_slice hr_cc
 subst eo_cc
 clear hr_cc hb_cc A_cc
 go_wp2_with fail
 refine (header_people.calls k _ _ l0 (⟨#[98, 99, 99]⟩ : ByteArray) t_bcc _ (Kd.C_below HR0.out HB.out) HC0.out A_bcc.out).mono ?_
 rintro e w_bcc ⟨v_bcc, rfl, hr_bcc, hb_bcc⟩
 have R_date := Aside0.mk (Mv.R R_date.out (Mv.below hb_bcc) (by decide))
 have R_subject := Aside0.mk (Mv.R R_subject.out (Mv.below hb_bcc) (by decide))
 have R_in := Aside0.mk (Mv.R R_in.out (Mv.below hb_bcc) (by decide))
 have R_id := Aside0.mk (Mv.R R_id.out (Mv.below hb_bcc) (by decide))
 have R_from := Aside0.mk (Mv.R R_from.out (Mv.below hb_bcc) (by decide))
 have R_sender := Aside0.mk (Mv.R R_sender.out (Mv.below hb_bcc) (by decide))
 have R_reply := Aside0.mk (Mv.R R_reply.out (Mv.below hb_bcc) (by decide))
 have R_to := Aside0.mk (Mv.R R_to.out (Mv.below hb_bcc) (by decide))
 have R_cc := Aside0.mk (Mv.R R_cc.out (Mv.below hb_bcc) (by decide))
 have BR := Aside0.mk (blk_below BR.out hb_bcc)
 have BG := Aside0.mk (blk_below BG.out hb_bcc)
 have R_bcc := Aside0.mk (Kd.R_lower hr_bcc HB.out.size)
 have HB := Aside0.mk (HB.out.trans (hb_bcc.mono HB.out.size))
 obtain ⟨Ao_bcc, co_bcc, eo_bcc⟩ := Kd.R_slice hr_bcc
 subst eo_bcc
 clear hr_bcc hb_bcc A_bcc
 have hc0 := (blk_cell BG.out 0).trans rfl
 have hc1 := (blk_cell BG.out 1).trans rfl
 have hc2 := (blk_cell BG.out 2).trans rfl
 have hc3 := (blk_cell BG.out 3).trans rfl
 have hc4 := (blk_cell BG.out 4).trans rfl
 have hc5 := (blk_cell BG.out 5).trans rfl
 have hc6 := (blk_cell BG.out 6).trans rfl
 have hc7 := (blk_cell BG.out 7).trans rfl
 have hc8 := (blk_cell BG.out 8).trans rfl
 have hc9 := (blk_cell BG.out 9).trans rfl
 have hf := blk_frozen BG.out
 by_cases h3 : (t_sender.length : Int) = 0
 ·
  have hb3 : ((t_sender.length : Int) == 0) = true := beq_iff_eq.2 h3
  have H := HH.out
  rw [if_pos h3] at H
  obtain ⟨q_s, b_s, H⟩ := Option.bind_eq_some_iff.1 H
  have Q_s := Aside0.mk b_s
  have HH := Aside0.mk H
  clear b_s H
  go_wp2_with fail
  clear hc0 hc1 hc2 hc3 hc4 hc5 hc6 hc7 hc8 hc9 hf
  have R_date := Aside0.mk (Mv.R R_date.out (Mv.set BG.out 5 (.slice Ao_to t_to.length co_to)) (by decide))
  have R_subject := Aside0.mk (Mv.R R_subject.out (Mv.set BG.out 5 (.slice Ao_to t_to.length co_to)) (by decide))
  have R_in := Aside0.mk (Mv.R R_in.out (Mv.set BG.out 5 (.slice Ao_to t_to.length co_to)) (by decide))
  have R_id := Aside0.mk (Mv.R R_id.out (Mv.set BG.out 5 (.slice Ao_to t_to.length co_to)) (by decide))
  have R_from := Aside0.mk (Mv.R R_from.out (Mv.set BG.out 5 (.slice Ao_to t_to.length co_to)) (by decide))
  have R_sender := Aside0.mk (Mv.R R_sender.out (Mv.set BG.out 5 (.slice Ao_to t_to.length co_to)) (by decide))
  have R_reply := Aside0.mk (Mv.R R_reply.out (Mv.set BG.out 5 (.slice Ao_to t_to.length co_to)) (by decide))
  have R_to := Aside0.mk (Mv.R R_to.out (Mv.set BG.out 5 (.slice Ao_to t_to.length co_to)) (by decide))
  have R_cc := Aside0.mk (Mv.R R_cc.out (Mv.set BG.out 5 (.slice Ao_to t_to.length co_to)) (by decide))
  have R_bcc := Aside0.mk (Mv.R R_bcc.out (Mv.set BG.out 5 (.slice Ao_to t_to.length co_to)) (by decide))
  have BR := Aside0.mk (blk_far BR.out (p := ⟨w_id.heap.size, 5, none⟩) NE.out (.slice Ao_to t_to.length co_to))
  have BG := Aside0.mk (blk_put (cs' := #[.slice Ao_date t_date.length co_date, .slice Ao_subject t_subject.length co_subject, .slice Ao_from t_from.length co_from, .slice Ao_sender t_sender.length co_sender, .slice Ao_reply t_reply.length co_reply, .slice Ao_to t_to.length co_to, .slice none 0 0, .slice none 0 0, .slice Ao_in t_in.length co_in, .slice Ao_id t_id.length co_id]) BG.out 5 (.slice Ao_to t_to.length co_to) rfl)
  have HB := Aside0.mk (below_set (g := w_id.heap.size) (j := 5) (v := .slice Ao_to t_to.length co_to) HB.out GE.out)
  have R_date := Aside0.mk (Mv.R R_date.out (Mv.set BG.out 6 (.slice Ao_cc t_cc.length co_cc)) (by decide))
  have R_subject := Aside0.mk (Mv.R R_subject.out (Mv.set BG.out 6 (.slice Ao_cc t_cc.length co_cc)) (by decide))
  have R_in := Aside0.mk (Mv.R R_in.out (Mv.set BG.out 6 (.slice Ao_cc t_cc.length co_cc)) (by decide))
  have R_id := Aside0.mk (Mv.R R_id.out (Mv.set BG.out 6 (.slice Ao_cc t_cc.length co_cc)) (by decide))
  have R_from := Aside0.mk (Mv.R R_from.out (Mv.set BG.out 6 (.slice Ao_cc t_cc.length co_cc)) (by decide))
  have R_sender := Aside0.mk (Mv.R R_sender.out (Mv.set BG.out 6 (.slice Ao_cc t_cc.length co_cc)) (by decide))
  have R_reply := Aside0.mk (Mv.R R_reply.out (Mv.set BG.out 6 (.slice Ao_cc t_cc.length co_cc)) (by decide))
  have R_to := Aside0.mk (Mv.R R_to.out (Mv.set BG.out 6 (.slice Ao_cc t_cc.length co_cc)) (by decide))
  have R_cc := Aside0.mk (Mv.R R_cc.out (Mv.set BG.out 6 (.slice Ao_cc t_cc.length co_cc)) (by decide))
  have R_bcc := Aside0.mk (Mv.R R_bcc.out (Mv.set BG.out 6 (.slice Ao_cc t_cc.length co_cc)) (by decide))
  have BR := Aside0.mk (blk_far BR.out (p := ⟨w_id.heap.size, 6, none⟩) NE.out (.slice Ao_cc t_cc.length co_cc))
  have BG := Aside0.mk (blk_put (cs' := #[.slice Ao_date t_date.length co_date, .slice Ao_subject t_subject.length co_subject, .slice Ao_from t_from.length co_from, .slice Ao_sender t_sender.length co_sender, .slice Ao_reply t_reply.length co_reply, .slice Ao_to t_to.length co_to, .slice Ao_cc t_cc.length co_cc, .slice none 0 0, .slice Ao_in t_in.length co_in, .slice Ao_id t_id.length co_id]) BG.out 6 (.slice Ao_cc t_cc.length co_cc) rfl)
  have HB := Aside0.mk (below_set (g := w_id.heap.size) (j := 6) (v := .slice Ao_cc t_cc.length co_cc) HB.out GE.out)
  have R_date := Aside0.mk (Mv.R R_date.out (Mv.set BG.out 7 (.slice Ao_bcc t_bcc.length co_bcc)) (by decide))
  have R_subject := Aside0.mk (Mv.R R_subject.out (Mv.set BG.out 7 (.slice Ao_bcc t_bcc.length co_bcc)) (by decide))
  have R_in := Aside0.mk (Mv.R R_in.out (Mv.set BG.out 7 (.slice Ao_bcc t_bcc.length co_bcc)) (by decide))
  have R_id := Aside0.mk (Mv.R R_id.out (Mv.set BG.out 7 (.slice Ao_bcc t_bcc.length co_bcc)) (by decide))
  have R_from := Aside0.mk (Mv.R R_from.out (Mv.set BG.out 7 (.slice Ao_bcc t_bcc.length co_bcc)) (by decide))
  have R_sender := Aside0.mk (Mv.R R_sender.out (Mv.set BG.out 7 (.slice Ao_bcc t_bcc.length co_bcc)) (by decide))
  have R_reply := Aside0.mk (Mv.R R_reply.out (Mv.set BG.out 7 (.slice Ao_bcc t_bcc.length co_bcc)) (by decide))
  have R_to := Aside0.mk (Mv.R R_to.out (Mv.set BG.out 7 (.slice Ao_bcc t_bcc.length co_bcc)) (by decide))
  have R_cc := Aside0.mk (Mv.R R_cc.out (Mv.set BG.out 7 (.slice Ao_bcc t_bcc.length co_bcc)) (by decide))
  have R_bcc := Aside0.mk (Mv.R R_bcc.out (Mv.set BG.out 7 (.slice Ao_bcc t_bcc.length co_bcc)) (by decide))
  have BR := Aside0.mk (blk_far BR.out (p := ⟨w_id.heap.size, 7, none⟩) NE.out (.slice Ao_bcc t_bcc.length co_bcc))
  have BG := Aside0.mk (blk_put (cs' := #[.slice Ao_date t_date.length co_date, .slice Ao_subject t_subject.length co_subject, .slice Ao_from t_from.length co_from, .slice Ao_sender t_sender.length co_sender, .slice Ao_reply t_reply.length co_reply, .slice Ao_to t_to.length co_to, .slice Ao_cc t_cc.length co_cc, .slice Ao_bcc t_bcc.length co_bcc, .slice Ao_in t_in.length co_in, .slice Ao_id t_id.length co_id]) BG.out 7 (.slice Ao_bcc t_bcc.length co_bcc) rfl)
  have HB := Aside0.mk (below_set (g := w_id.heap.size) (j := 7) (v := .slice Ao_bcc t_bcc.length co_bcc) HB.out GE.out)
  refine (api_Address.calls _ _ t_from q_s _ (Kd.R_reads' R_from.out).2.2 (Kd.R_reads' R_from.out).2.1 Q_s.out).mono ?_
  rintro e w_s ⟨v_s, rfl, hr_s, hb_s⟩
  have R_date := Aside0.mk (Mv.R R_date.out (Mv.below hb_s) (by decide))
  have R_subject := Aside0.mk (Mv.R R_subject.out (Mv.below hb_s) (by decide))
  have R_in := Aside0.mk (Mv.R R_in.out (Mv.below hb_s) (by decide))
  have R_id := Aside0.mk (Mv.R R_id.out (Mv.below hb_s) (by decide))
  have R_from := Aside0.mk (Mv.R R_from.out (Mv.below hb_s) (by decide))
  have R_sender := Aside0.mk (Mv.R R_sender.out (Mv.below hb_s) (by decide))
  have R_reply := Aside0.mk (Mv.R R_reply.out (Mv.below hb_s) (by decide))
  have R_to := Aside0.mk (Mv.R R_to.out (Mv.below hb_s) (by decide))
  have R_cc := Aside0.mk (Mv.R R_cc.out (Mv.below hb_s) (by decide))
  have R_bcc := Aside0.mk (Mv.R R_bcc.out (Mv.below hb_s) (by decide))
  have BR := Aside0.mk (blk_below BR.out hb_s)
  have BG := Aside0.mk (blk_below BG.out hb_s)
  have R_s := Aside0.mk (Kd.R_lower hr_s HB.out.size)
  have HB := Aside0.mk (HB.out.trans (hb_s.mono HB.out.size))
  obtain ⟨Ao_s, co_s, eo_s⟩ := Kd.R_slice hr_s
  subst eo_s
  clear hr_s hb_s
  have hc0 := (blk_cell BG.out 0).trans rfl
  have hc1 := (blk_cell BG.out 1).trans rfl
  have hc2 := (blk_cell BG.out 2).trans rfl
  have hc3 := (blk_cell BG.out 3).trans rfl
  have hc4 := (blk_cell BG.out 4).trans rfl
  have hc5 := (blk_cell BG.out 5).trans rfl
  have hc6 := (blk_cell BG.out 6).trans rfl
  have hc7 := (blk_cell BG.out 7).trans rfl
  have hc8 := (blk_cell BG.out 8).trans rfl
  have hc9 := (blk_cell BG.out 9).trans rfl
  have hf := blk_frozen BG.out
  by_cases h4 : (t_reply.length : Int) = 0
  ·
   have hb4 : ((t_reply.length : Int) == 0) = true := beq_iff_eq.2 h4
   have H := HH.out
   rw [if_pos h4] at H
   obtain ⟨q_p, b_p, H⟩ := Option.bind_eq_some_iff.1 H
   have Q_p := Aside0.mk b_p
   have HH := Aside0.mk H
   clear b_p H
   go_wp2_with fail
   clear hc0 hc1 hc2 hc3 hc4 hc5 hc6 hc7 hc8 hc9 hf
   have R_date := Aside0.mk (Mv.R R_date.out (Mv.set BG.out 3 (.slice Ao_s q_s.length co_s)) (by decide))
   have R_subject := Aside0.mk (Mv.R R_subject.out (Mv.set BG.out 3 (.slice Ao_s q_s.length co_s)) (by decide))
   have R_in := Aside0.mk (Mv.R R_in.out (Mv.set BG.out 3 (.slice Ao_s q_s.length co_s)) (by decide))
   have R_id := Aside0.mk (Mv.R R_id.out (Mv.set BG.out 3 (.slice Ao_s q_s.length co_s)) (by decide))
   have R_from := Aside0.mk (Mv.R R_from.out (Mv.set BG.out 3 (.slice Ao_s q_s.length co_s)) (by decide))
   have R_sender := Aside0.mk (Mv.R R_sender.out (Mv.set BG.out 3 (.slice Ao_s q_s.length co_s)) (by decide))
   have R_reply := Aside0.mk (Mv.R R_reply.out (Mv.set BG.out 3 (.slice Ao_s q_s.length co_s)) (by decide))
   have R_to := Aside0.mk (Mv.R R_to.out (Mv.set BG.out 3 (.slice Ao_s q_s.length co_s)) (by decide))
   have R_cc := Aside0.mk (Mv.R R_cc.out (Mv.set BG.out 3 (.slice Ao_s q_s.length co_s)) (by decide))
   have R_bcc := Aside0.mk (Mv.R R_bcc.out (Mv.set BG.out 3 (.slice Ao_s q_s.length co_s)) (by decide))
   have R_s := Aside0.mk (Mv.R R_s.out (Mv.set BG.out 3 (.slice Ao_s q_s.length co_s)) (by decide))
   have BR := Aside0.mk (blk_far BR.out (p := ⟨w_id.heap.size, 3, none⟩) NE.out (.slice Ao_s q_s.length co_s))
   have BG := Aside0.mk (blk_put (cs' := #[.slice Ao_date t_date.length co_date, .slice Ao_subject t_subject.length co_subject, .slice Ao_from t_from.length co_from, .slice Ao_s q_s.length co_s, .slice Ao_reply t_reply.length co_reply, .slice Ao_to t_to.length co_to, .slice Ao_cc t_cc.length co_cc, .slice Ao_bcc t_bcc.length co_bcc, .slice Ao_in t_in.length co_in, .slice Ao_id t_id.length co_id]) BG.out 3 (.slice Ao_s q_s.length co_s) rfl)
   have HB := Aside0.mk (below_set (g := w_id.heap.size) (j := 3) (v := .slice Ao_s q_s.length co_s) HB.out GE.out)
   refine (api_Address.calls _ _ t_from q_p _ (Kd.R_reads' R_from.out).2.2 (Kd.R_reads' R_from.out).2.1 Q_p.out).mono ?_
   rintro e w_p ⟨v_p, rfl, hr_p, hb_p⟩
   have R_date := Aside0.mk (Mv.R R_date.out (Mv.below hb_p) (by decide))
   have R_subject := Aside0.mk (Mv.R R_subject.out (Mv.below hb_p) (by decide))
   have R_in := Aside0.mk (Mv.R R_in.out (Mv.below hb_p) (by decide))
   have R_id := Aside0.mk (Mv.R R_id.out (Mv.below hb_p) (by decide))
   have R_from := Aside0.mk (Mv.R R_from.out (Mv.below hb_p) (by decide))
   have R_sender := Aside0.mk (Mv.R R_sender.out (Mv.below hb_p) (by decide))
   have R_reply := Aside0.mk (Mv.R R_reply.out (Mv.below hb_p) (by decide))
   have R_to := Aside0.mk (Mv.R R_to.out (Mv.below hb_p) (by decide))
   have R_cc := Aside0.mk (Mv.R R_cc.out (Mv.below hb_p) (by decide))
   have R_bcc := Aside0.mk (Mv.R R_bcc.out (Mv.below hb_p) (by decide))
   have R_s := Aside0.mk (Mv.R R_s.out (Mv.below hb_p) (by decide))
   have BR := Aside0.mk (blk_below BR.out hb_p)
   have BG := Aside0.mk (blk_below BG.out hb_p)
   have R_p := Aside0.mk (Kd.R_lower hr_p HB.out.size)
   have HB := Aside0.mk (HB.out.trans (hb_p.mono HB.out.size))
   obtain ⟨Ao_p, co_p, eo_p⟩ := Kd.R_slice hr_p
   subst eo_p
   clear hr_p hb_p
   have hc0 := (blk_cell BG.out 0).trans rfl
   have hc1 := (blk_cell BG.out 1).trans rfl
   have hc2 := (blk_cell BG.out 2).trans rfl
   have hc3 := (blk_cell BG.out 3).trans rfl
   have hc4 := (blk_cell BG.out 4).trans rfl
   have hc5 := (blk_cell BG.out 5).trans rfl
   have hc6 := (blk_cell BG.out 6).trans rfl
   have hc7 := (blk_cell BG.out 7).trans rfl
   have hc8 := (blk_cell BG.out 8).trans rfl
   have hc9 := (blk_cell BG.out 9).trans rfl
   have hf := blk_frozen BG.out
   have H := HH.out
   clear HH
   simp only [Option.some.injEq] at H
   subst H
   have rc0 := (blk_cell BR.out 0).trans (show z10[0]? = some (Value.slice none 0 0) from rfl)
   have rc1 := (blk_cell BR.out 1).trans (show z10[1]? = some (Value.slice none 0 0) from rfl)
   have rc2 := (blk_cell BR.out 2).trans (show z10[2]? = some (Value.slice none 0 0) from rfl)
   have rc3 := (blk_cell BR.out 3).trans (show z10[3]? = some (Value.slice none 0 0) from rfl)
   have rc4 := (blk_cell BR.out 4).trans (show z10[4]? = some (Value.slice none 0 0) from rfl)
   have rc5 := (blk_cell BR.out 5).trans (show z10[5]? = some (Value.slice none 0 0) from rfl)
   have rc6 := (blk_cell BR.out 6).trans (show z10[6]? = some (Value.slice none 0 0) from rfl)
   have rc7 := (blk_cell BR.out 7).trans (show z10[7]? = some (Value.slice none 0 0) from rfl)
   have rc8 := (blk_cell BR.out 8).trans (show z10[8]? = some (Value.slice none 0 0) from rfl)
   have rc9 := (blk_cell BR.out 9).trans (show z10[9]? = some (Value.slice none 0 0) from rfl)
   have rf := blk_frozen BR.out
   have ne := NE.out
   have ne2 := NE.out.symm
   go_wp2_with fail
   clear hc0 hc1 hc2 hc3 hc4 hc5 hc6 hc7 hc8 hc9 hf
   have R_date := Aside0.mk (Mv.R R_date.out (Mv.set BG.out 4 (.slice Ao_p q_p.length co_p)) (by decide))
   have R_subject := Aside0.mk (Mv.R R_subject.out (Mv.set BG.out 4 (.slice Ao_p q_p.length co_p)) (by decide))
   have R_in := Aside0.mk (Mv.R R_in.out (Mv.set BG.out 4 (.slice Ao_p q_p.length co_p)) (by decide))
   have R_id := Aside0.mk (Mv.R R_id.out (Mv.set BG.out 4 (.slice Ao_p q_p.length co_p)) (by decide))
   have R_from := Aside0.mk (Mv.R R_from.out (Mv.set BG.out 4 (.slice Ao_p q_p.length co_p)) (by decide))
   have R_sender := Aside0.mk (Mv.R R_sender.out (Mv.set BG.out 4 (.slice Ao_p q_p.length co_p)) (by decide))
   have R_reply := Aside0.mk (Mv.R R_reply.out (Mv.set BG.out 4 (.slice Ao_p q_p.length co_p)) (by decide))
   have R_to := Aside0.mk (Mv.R R_to.out (Mv.set BG.out 4 (.slice Ao_p q_p.length co_p)) (by decide))
   have R_cc := Aside0.mk (Mv.R R_cc.out (Mv.set BG.out 4 (.slice Ao_p q_p.length co_p)) (by decide))
   have R_bcc := Aside0.mk (Mv.R R_bcc.out (Mv.set BG.out 4 (.slice Ao_p q_p.length co_p)) (by decide))
   have R_s := Aside0.mk (Mv.R R_s.out (Mv.set BG.out 4 (.slice Ao_p q_p.length co_p)) (by decide))
   have R_p := Aside0.mk (Mv.R R_p.out (Mv.set BG.out 4 (.slice Ao_p q_p.length co_p)) (by decide))
   have BR := Aside0.mk (blk_far BR.out (p := ⟨w_id.heap.size, 4, none⟩) NE.out (.slice Ao_p q_p.length co_p))
   have BG := Aside0.mk (blk_put (cs' := #[.slice Ao_date t_date.length co_date, .slice Ao_subject t_subject.length co_subject, .slice Ao_from t_from.length co_from, .slice Ao_s q_s.length co_s, .slice Ao_p q_p.length co_p, .slice Ao_to t_to.length co_to, .slice Ao_cc t_cc.length co_cc, .slice Ao_bcc t_bcc.length co_bcc, .slice Ao_in t_in.length co_in, .slice Ao_id t_id.length co_id]) BG.out 4 (.slice Ao_p q_p.length co_p) rfl)
   have HB := Aside0.mk (below_set (g := w_id.heap.size) (j := 4) (v := .slice Ao_p q_p.length co_p) HB.out GE.out)
   have BR0 := blk_put (cs' := #[.slice Ao_date t_date.length co_date, .slice none 0 0, .slice none 0 0, .slice none 0 0, .slice none 0 0, .slice none 0 0, .slice none 0 0, .slice none 0 0, .slice none 0 0, .slice none 0 0]) BR.out 0 (.slice Ao_date t_date.length co_date) rfl
   have BR1 := blk_put (cs' := #[.slice Ao_date t_date.length co_date, .slice Ao_subject t_subject.length co_subject, .slice none 0 0, .slice none 0 0, .slice none 0 0, .slice none 0 0, .slice none 0 0, .slice none 0 0, .slice none 0 0, .slice none 0 0]) BR0 1 (.slice Ao_subject t_subject.length co_subject) rfl
   have BR2 := blk_put (cs' := #[.slice Ao_date t_date.length co_date, .slice Ao_subject t_subject.length co_subject, .slice Ao_from t_from.length co_from, .slice none 0 0, .slice none 0 0, .slice none 0 0, .slice none 0 0, .slice none 0 0, .slice none 0 0, .slice none 0 0]) BR1 2 (.slice Ao_from t_from.length co_from) rfl
   have BR3 := blk_put (cs' := #[.slice Ao_date t_date.length co_date, .slice Ao_subject t_subject.length co_subject, .slice Ao_from t_from.length co_from, .slice Ao_s q_s.length co_s, .slice none 0 0, .slice none 0 0, .slice none 0 0, .slice none 0 0, .slice none 0 0, .slice none 0 0]) BR2 3 (.slice Ao_s q_s.length co_s) rfl
   have BR4 := blk_put (cs' := #[.slice Ao_date t_date.length co_date, .slice Ao_subject t_subject.length co_subject, .slice Ao_from t_from.length co_from, .slice Ao_s q_s.length co_s, .slice Ao_p q_p.length co_p, .slice none 0 0, .slice none 0 0, .slice none 0 0, .slice none 0 0, .slice none 0 0]) BR3 4 (.slice Ao_p q_p.length co_p) rfl
   have BR5 := blk_put (cs' := #[.slice Ao_date t_date.length co_date, .slice Ao_subject t_subject.length co_subject, .slice Ao_from t_from.length co_from, .slice Ao_s q_s.length co_s, .slice Ao_p q_p.length co_p, .slice Ao_to t_to.length co_to, .slice none 0 0, .slice none 0 0, .slice none 0 0, .slice none 0 0]) BR4 5 (.slice Ao_to t_to.length co_to) rfl
   have BR6 := blk_put (cs' := #[.slice Ao_date t_date.length co_date, .slice Ao_subject t_subject.length co_subject, .slice Ao_from t_from.length co_from, .slice Ao_s q_s.length co_s, .slice Ao_p q_p.length co_p, .slice Ao_to t_to.length co_to, .slice Ao_cc t_cc.length co_cc, .slice none 0 0, .slice none 0 0, .slice none 0 0]) BR5 6 (.slice Ao_cc t_cc.length co_cc) rfl
   have BR7 := blk_put (cs' := #[.slice Ao_date t_date.length co_date, .slice Ao_subject t_subject.length co_subject, .slice Ao_from t_from.length co_from, .slice Ao_s q_s.length co_s, .slice Ao_p q_p.length co_p, .slice Ao_to t_to.length co_to, .slice Ao_cc t_cc.length co_cc, .slice Ao_bcc t_bcc.length co_bcc, .slice none 0 0, .slice none 0 0]) BR6 7 (.slice Ao_bcc t_bcc.length co_bcc) rfl
   have BR8 := blk_put (cs' := #[.slice Ao_date t_date.length co_date, .slice Ao_subject t_subject.length co_subject, .slice Ao_from t_from.length co_from, .slice Ao_s q_s.length co_s, .slice Ao_p q_p.length co_p, .slice Ao_to t_to.length co_to, .slice Ao_cc t_cc.length co_cc, .slice Ao_bcc t_bcc.length co_bcc, .slice Ao_in t_in.length co_in, .slice none 0 0]) BR7 8 (.slice Ao_in t_in.length co_in) rfl
   have BR9 := blk_put (cs' := #[.slice Ao_date t_date.length co_date, .slice Ao_subject t_subject.length co_subject, .slice Ao_from t_from.length co_from, .slice Ao_s q_s.length co_s, .slice Ao_p q_p.length co_p, .slice Ao_to t_to.length co_to, .slice Ao_cc t_cc.length co_cc, .slice Ao_bcc t_bcc.length co_bcc, .slice Ao_in t_in.length co_in, .slice Ao_id t_id.length co_id]) BR8 9 (.slice Ao_id t_id.length co_id) rfl
   refine bodyPost_ret (results_cell_row rfl _ _ w.heap.size 49 #[.slice Ao_date t_date.length co_date, .slice Ao_subject t_subject.length co_subject, .slice Ao_from t_from.length co_from, .slice Ao_s q_s.length co_s, .slice Ao_p q_p.length co_p, .slice Ao_to t_to.length co_to, .slice Ao_cc t_cc.length co_cc, .slice Ao_bcc t_bcc.length co_bcc, .slice Ao_in t_in.length co_in, .slice Ao_id t_id.length co_id] (0, 0) _ rfl BR9 Tryd.underlying49 rfl (by kernel_rfl)) rfl ?_
   have MV := ((((((((((Mv.set BR.out 0 (.slice Ao_date t_date.length co_date)).trans (Mv.set BR0 1 (.slice Ao_subject t_subject.length co_subject))).trans (Mv.set BR1 2 (.slice Ao_from t_from.length co_from))).trans (Mv.set BR2 3 (.slice Ao_s q_s.length co_s))).trans (Mv.set BR3 4 (.slice Ao_p q_p.length co_p))).trans (Mv.set BR4 5 (.slice Ao_to t_to.length co_to))).trans (Mv.set BR5 6 (.slice Ao_cc t_cc.length co_cc))).trans (Mv.set BR6 7 (.slice Ao_bcc t_bcc.length co_bcc))).trans (Mv.set BR7 8 (.slice Ao_in t_in.length co_in))).trans (Mv.set BR8 9 (.slice Ao_id t_id.length co_id)))
   have F0 := Kd.R_reads' (Mv.R R_date.out MV (by decide))
   have F1 := Kd.R_reads' (Mv.R R_subject.out MV (by decide))
   have F2 := Kd.R_reads' (Mv.R R_from.out MV (by decide))
   have F3 := Kd.R_reads' (Mv.R R_s.out MV (by decide))
   have F4 := Kd.R_reads' (Mv.R R_p.out MV (by decide))
   have F5 := Kd.R_reads' (Mv.R R_to.out MV (by decide))
   have F6 := Kd.R_reads' (Mv.R R_cc.out MV (by decide))
   have F7 := Kd.R_reads' (Mv.R R_bcc.out MV (by decide))
   have F8 := Kd.R_reads' (Mv.R R_in.out MV (by decide))
   have F9 := Kd.R_reads' (Mv.R R_id.out MV (by decide))
   exact ⟨_, rfl, ⟨_, _, _, _, _, _, _, _, _, _, _, _, _, _, _, _, _, _, _, _, rfl, ⟨F0.2.2, F0.2.1⟩, ⟨F1.2.2, F1.2.1⟩, ⟨F2.2.2, F2.2.1⟩, ⟨F3.2.2, F3.2.1⟩, ⟨F4.2.2, F4.2.1⟩, ⟨F5.2.2, F5.2.1⟩, ⟨F6.2.2, F6.2.1⟩, ⟨F7.2.2, F7.2.1⟩, ⟨F8.2.2, F8.2.1⟩, ⟨F9.2.2, F9.2.1⟩⟩, (below_set (g := w.heap.size) (j := 9) (v := .slice Ao_id t_id.length co_id) (below_set (g := w.heap.size) (j := 8) (v := .slice Ao_in t_in.length co_in) (below_set (g := w.heap.size) (j := 7) (v := .slice Ao_bcc t_bcc.length co_bcc) (below_set (g := w.heap.size) (j := 6) (v := .slice Ao_cc t_cc.length co_cc) (below_set (g := w.heap.size) (j := 5) (v := .slice Ao_to t_to.length co_to) (below_set (g := w.heap.size) (j := 4) (v := .slice Ao_p q_p.length co_p) (below_set (g := w.heap.size) (j := 3) (v := .slice Ao_s q_s.length co_s) (below_set (g := w.heap.size) (j := 2) (v := .slice Ao_from t_from.length co_from) (below_set (g := w.heap.size) (j := 1) (v := .slice Ao_subject t_subject.length co_subject) (below_set (g := w.heap.size) (j := 0) (v := .slice Ao_date t_date.length co_date) HB.out (Nat.le_refl _)) (Nat.le_refl _)) (Nat.le_refl _)) (Nat.le_refl _)) (Nat.le_refl _)) (Nat.le_refl _)) (Nat.le_refl _)) (Nat.le_refl _)) (Nat.le_refl _)) (Nat.le_refl _))⟩
  ·
   have hb4 : ((t_reply.length : Int) == 0) = false := beq_eq_false_iff_ne.2 h4
   have H := HH.out
   rw [if_neg h4] at H
   have HH := Aside0.mk H
   clear H
   have H := HH.out
   clear HH
   simp only [Option.some.injEq] at H
   subst H
   have rc0 := (blk_cell BR.out 0).trans (show z10[0]? = some (Value.slice none 0 0) from rfl)
   have rc1 := (blk_cell BR.out 1).trans (show z10[1]? = some (Value.slice none 0 0) from rfl)
   have rc2 := (blk_cell BR.out 2).trans (show z10[2]? = some (Value.slice none 0 0) from rfl)
   have rc3 := (blk_cell BR.out 3).trans (show z10[3]? = some (Value.slice none 0 0) from rfl)
   have rc4 := (blk_cell BR.out 4).trans (show z10[4]? = some (Value.slice none 0 0) from rfl)
   have rc5 := (blk_cell BR.out 5).trans (show z10[5]? = some (Value.slice none 0 0) from rfl)
   have rc6 := (blk_cell BR.out 6).trans (show z10[6]? = some (Value.slice none 0 0) from rfl)
   have rc7 := (blk_cell BR.out 7).trans (show z10[7]? = some (Value.slice none 0 0) from rfl)
   have rc8 := (blk_cell BR.out 8).trans (show z10[8]? = some (Value.slice none 0 0) from rfl)
   have rc9 := (blk_cell BR.out 9).trans (show z10[9]? = some (Value.slice none 0 0) from rfl)
   have rf := blk_frozen BR.out
   have ne := NE.out
   have ne2 := NE.out.symm
   go_wp2_with fail
   clear hc0 hc1 hc2 hc3 hc4 hc5 hc6 hc7 hc8 hc9 hf
   have R_date := Aside0.mk (Mv.R R_date.out (Mv.set BG.out 3 (.slice Ao_s q_s.length co_s)) (by decide))
   have R_subject := Aside0.mk (Mv.R R_subject.out (Mv.set BG.out 3 (.slice Ao_s q_s.length co_s)) (by decide))
   have R_in := Aside0.mk (Mv.R R_in.out (Mv.set BG.out 3 (.slice Ao_s q_s.length co_s)) (by decide))
   have R_id := Aside0.mk (Mv.R R_id.out (Mv.set BG.out 3 (.slice Ao_s q_s.length co_s)) (by decide))
   have R_from := Aside0.mk (Mv.R R_from.out (Mv.set BG.out 3 (.slice Ao_s q_s.length co_s)) (by decide))
   have R_sender := Aside0.mk (Mv.R R_sender.out (Mv.set BG.out 3 (.slice Ao_s q_s.length co_s)) (by decide))
   have R_reply := Aside0.mk (Mv.R R_reply.out (Mv.set BG.out 3 (.slice Ao_s q_s.length co_s)) (by decide))
   have R_to := Aside0.mk (Mv.R R_to.out (Mv.set BG.out 3 (.slice Ao_s q_s.length co_s)) (by decide))
   have R_cc := Aside0.mk (Mv.R R_cc.out (Mv.set BG.out 3 (.slice Ao_s q_s.length co_s)) (by decide))
   have R_bcc := Aside0.mk (Mv.R R_bcc.out (Mv.set BG.out 3 (.slice Ao_s q_s.length co_s)) (by decide))
   have R_s := Aside0.mk (Mv.R R_s.out (Mv.set BG.out 3 (.slice Ao_s q_s.length co_s)) (by decide))
   have BR := Aside0.mk (blk_far BR.out (p := ⟨w_id.heap.size, 3, none⟩) NE.out (.slice Ao_s q_s.length co_s))
   have BG := Aside0.mk (blk_put (cs' := #[.slice Ao_date t_date.length co_date, .slice Ao_subject t_subject.length co_subject, .slice Ao_from t_from.length co_from, .slice Ao_s q_s.length co_s, .slice Ao_reply t_reply.length co_reply, .slice Ao_to t_to.length co_to, .slice Ao_cc t_cc.length co_cc, .slice Ao_bcc t_bcc.length co_bcc, .slice Ao_in t_in.length co_in, .slice Ao_id t_id.length co_id]) BG.out 3 (.slice Ao_s q_s.length co_s) rfl)
   have HB := Aside0.mk (below_set (g := w_id.heap.size) (j := 3) (v := .slice Ao_s q_s.length co_s) HB.out GE.out)
   have BR0 := blk_put (cs' := #[.slice Ao_date t_date.length co_date, .slice none 0 0, .slice none 0 0, .slice none 0 0, .slice none 0 0, .slice none 0 0, .slice none 0 0, .slice none 0 0, .slice none 0 0, .slice none 0 0]) BR.out 0 (.slice Ao_date t_date.length co_date) rfl
   have BR1 := blk_put (cs' := #[.slice Ao_date t_date.length co_date, .slice Ao_subject t_subject.length co_subject, .slice none 0 0, .slice none 0 0, .slice none 0 0, .slice none 0 0, .slice none 0 0, .slice none 0 0, .slice none 0 0, .slice none 0 0]) BR0 1 (.slice Ao_subject t_subject.length co_subject) rfl
   have BR2 := blk_put (cs' := #[.slice Ao_date t_date.length co_date, .slice Ao_subject t_subject.length co_subject, .slice Ao_from t_from.length co_from, .slice none 0 0, .slice none 0 0, .slice none 0 0, .slice none 0 0, .slice none 0 0, .slice none 0 0, .slice none 0 0]) BR1 2 (.slice Ao_from t_from.length co_from) rfl
   have BR3 := blk_put (cs' := #[.slice Ao_date t_date.length co_date, .slice Ao_subject t_subject.length co_subject, .slice Ao_from t_from.length co_from, .slice Ao_s q_s.length co_s, .slice none 0 0, .slice none 0 0, .slice none 0 0, .slice none 0 0, .slice none 0 0, .slice none 0 0]) BR2 3 (.slice Ao_s q_s.length co_s) rfl
   have BR4 := blk_put (cs' := #[.slice Ao_date t_date.length co_date, .slice Ao_subject t_subject.length co_subject, .slice Ao_from t_from.length co_from, .slice Ao_s q_s.length co_s, .slice Ao_reply t_reply.length co_reply, .slice none 0 0, .slice none 0 0, .slice none 0 0, .slice none 0 0, .slice none 0 0]) BR3 4 (.slice Ao_reply t_reply.length co_reply) rfl
   have BR5 := blk_put (cs' := #[.slice Ao_date t_date.length co_date, .slice Ao_subject t_subject.length co_subject, .slice Ao_from t_from.length co_from, .slice Ao_s q_s.length co_s, .slice Ao_reply t_reply.length co_reply, .slice Ao_to t_to.length co_to, .slice none 0 0, .slice none 0 0, .slice none 0 0, .slice none 0 0]) BR4 5 (.slice Ao_to t_to.length co_to) rfl
   have BR6 := blk_put (cs' := #[.slice Ao_date t_date.length co_date, .slice Ao_subject t_subject.length co_subject, .slice Ao_from t_from.length co_from, .slice Ao_s q_s.length co_s, .slice Ao_reply t_reply.length co_reply, .slice Ao_to t_to.length co_to, .slice Ao_cc t_cc.length co_cc, .slice none 0 0, .slice none 0 0, .slice none 0 0]) BR5 6 (.slice Ao_cc t_cc.length co_cc) rfl
   have BR7 := blk_put (cs' := #[.slice Ao_date t_date.length co_date, .slice Ao_subject t_subject.length co_subject, .slice Ao_from t_from.length co_from, .slice Ao_s q_s.length co_s, .slice Ao_reply t_reply.length co_reply, .slice Ao_to t_to.length co_to, .slice Ao_cc t_cc.length co_cc, .slice Ao_bcc t_bcc.length co_bcc, .slice none 0 0, .slice none 0 0]) BR6 7 (.slice Ao_bcc t_bcc.length co_bcc) rfl
   have BR8 := blk_put (cs' := #[.slice Ao_date t_date.length co_date, .slice Ao_subject t_subject.length co_subject, .slice Ao_from t_from.length co_from, .slice Ao_s q_s.length co_s, .slice Ao_reply t_reply.length co_reply, .slice Ao_to t_to.length co_to, .slice Ao_cc t_cc.length co_cc, .slice Ao_bcc t_bcc.length co_bcc, .slice Ao_in t_in.length co_in, .slice none 0 0]) BR7 8 (.slice Ao_in t_in.length co_in) rfl
   have BR9 := blk_put (cs' := #[.slice Ao_date t_date.length co_date, .slice Ao_subject t_subject.length co_subject, .slice Ao_from t_from.length co_from, .slice Ao_s q_s.length co_s, .slice Ao_reply t_reply.length co_reply, .slice Ao_to t_to.length co_to, .slice Ao_cc t_cc.length co_cc, .slice Ao_bcc t_bcc.length co_bcc, .slice Ao_in t_in.length co_in, .slice Ao_id t_id.length co_id]) BR8 9 (.slice Ao_id t_id.length co_id) rfl
   refine bodyPost_ret (results_cell_row rfl _ _ w.heap.size 49 #[.slice Ao_date t_date.length co_date, .slice Ao_subject t_subject.length co_subject, .slice Ao_from t_from.length co_from, .slice Ao_s q_s.length co_s, .slice Ao_reply t_reply.length co_reply, .slice Ao_to t_to.length co_to, .slice Ao_cc t_cc.length co_cc, .slice Ao_bcc t_bcc.length co_bcc, .slice Ao_in t_in.length co_in, .slice Ao_id t_id.length co_id] (0, 0) _ rfl BR9 Tryd.underlying49 rfl (by kernel_rfl)) rfl ?_
   have MV := ((((((((((Mv.set BR.out 0 (.slice Ao_date t_date.length co_date)).trans (Mv.set BR0 1 (.slice Ao_subject t_subject.length co_subject))).trans (Mv.set BR1 2 (.slice Ao_from t_from.length co_from))).trans (Mv.set BR2 3 (.slice Ao_s q_s.length co_s))).trans (Mv.set BR3 4 (.slice Ao_reply t_reply.length co_reply))).trans (Mv.set BR4 5 (.slice Ao_to t_to.length co_to))).trans (Mv.set BR5 6 (.slice Ao_cc t_cc.length co_cc))).trans (Mv.set BR6 7 (.slice Ao_bcc t_bcc.length co_bcc))).trans (Mv.set BR7 8 (.slice Ao_in t_in.length co_in))).trans (Mv.set BR8 9 (.slice Ao_id t_id.length co_id)))
   have F0 := Kd.R_reads' (Mv.R R_date.out MV (by decide))
   have F1 := Kd.R_reads' (Mv.R R_subject.out MV (by decide))
   have F2 := Kd.R_reads' (Mv.R R_from.out MV (by decide))
   have F3 := Kd.R_reads' (Mv.R R_s.out MV (by decide))
   have F4 := Kd.R_reads' (Mv.R R_reply.out MV (by decide))
   have F5 := Kd.R_reads' (Mv.R R_to.out MV (by decide))
   have F6 := Kd.R_reads' (Mv.R R_cc.out MV (by decide))
   have F7 := Kd.R_reads' (Mv.R R_bcc.out MV (by decide))
   have F8 := Kd.R_reads' (Mv.R R_in.out MV (by decide))
   have F9 := Kd.R_reads' (Mv.R R_id.out MV (by decide))
   exact ⟨_, rfl, ⟨_, _, _, _, _, _, _, _, _, _, _, _, _, _, _, _, _, _, _, _, rfl, ⟨F0.2.2, F0.2.1⟩, ⟨F1.2.2, F1.2.1⟩, ⟨F2.2.2, F2.2.1⟩, ⟨F3.2.2, F3.2.1⟩, ⟨F4.2.2, F4.2.1⟩, ⟨F5.2.2, F5.2.1⟩, ⟨F6.2.2, F6.2.1⟩, ⟨F7.2.2, F7.2.1⟩, ⟨F8.2.2, F8.2.1⟩, ⟨F9.2.2, F9.2.1⟩⟩, (below_set (g := w.heap.size) (j := 9) (v := .slice Ao_id t_id.length co_id) (below_set (g := w.heap.size) (j := 8) (v := .slice Ao_in t_in.length co_in) (below_set (g := w.heap.size) (j := 7) (v := .slice Ao_bcc t_bcc.length co_bcc) (below_set (g := w.heap.size) (j := 6) (v := .slice Ao_cc t_cc.length co_cc) (below_set (g := w.heap.size) (j := 5) (v := .slice Ao_to t_to.length co_to) (below_set (g := w.heap.size) (j := 4) (v := .slice Ao_reply t_reply.length co_reply) (below_set (g := w.heap.size) (j := 3) (v := .slice Ao_s q_s.length co_s) (below_set (g := w.heap.size) (j := 2) (v := .slice Ao_from t_from.length co_from) (below_set (g := w.heap.size) (j := 1) (v := .slice Ao_subject t_subject.length co_subject) (below_set (g := w.heap.size) (j := 0) (v := .slice Ao_date t_date.length co_date) HB.out (Nat.le_refl _)) (Nat.le_refl _)) (Nat.le_refl _)) (Nat.le_refl _)) (Nat.le_refl _)) (Nat.le_refl _)) (Nat.le_refl _)) (Nat.le_refl _)) (Nat.le_refl _)) (Nat.le_refl _))⟩
 ·
  have hb3 : ((t_sender.length : Int) == 0) = false := beq_eq_false_iff_ne.2 h3
  have H := HH.out
  rw [if_neg h3] at H
  have HH := Aside0.mk H
  clear H
  by_cases h4 : (t_reply.length : Int) = 0
  ·
   have hb4 : ((t_reply.length : Int) == 0) = true := beq_iff_eq.2 h4
   have H := HH.out
   rw [if_pos h4] at H
   obtain ⟨q_p, b_p, H⟩ := Option.bind_eq_some_iff.1 H
   have Q_p := Aside0.mk b_p
   have HH := Aside0.mk H
   clear b_p H
   go_wp2_with fail
   clear hc0 hc1 hc2 hc3 hc4 hc5 hc6 hc7 hc8 hc9 hf
   have R_date := Aside0.mk (Mv.R R_date.out (Mv.set BG.out 5 (.slice Ao_to t_to.length co_to)) (by decide))
   have R_subject := Aside0.mk (Mv.R R_subject.out (Mv.set BG.out 5 (.slice Ao_to t_to.length co_to)) (by decide))
   have R_in := Aside0.mk (Mv.R R_in.out (Mv.set BG.out 5 (.slice Ao_to t_to.length co_to)) (by decide))
   have R_id := Aside0.mk (Mv.R R_id.out (Mv.set BG.out 5 (.slice Ao_to t_to.length co_to)) (by decide))
   have R_from := Aside0.mk (Mv.R R_from.out (Mv.set BG.out 5 (.slice Ao_to t_to.length co_to)) (by decide))
   have R_sender := Aside0.mk (Mv.R R_sender.out (Mv.set BG.out 5 (.slice Ao_to t_to.length co_to)) (by decide))
   have R_reply := Aside0.mk (Mv.R R_reply.out (Mv.set BG.out 5 (.slice Ao_to t_to.length co_to)) (by decide))
   have R_to := Aside0.mk (Mv.R R_to.out (Mv.set BG.out 5 (.slice Ao_to t_to.length co_to)) (by decide))
   have R_cc := Aside0.mk (Mv.R R_cc.out (Mv.set BG.out 5 (.slice Ao_to t_to.length co_to)) (by decide))
   have R_bcc := Aside0.mk (Mv.R R_bcc.out (Mv.set BG.out 5 (.slice Ao_to t_to.length co_to)) (by decide))
   have BR := Aside0.mk (blk_far BR.out (p := ⟨w_id.heap.size, 5, none⟩) NE.out (.slice Ao_to t_to.length co_to))
   have BG := Aside0.mk (blk_put (cs' := #[.slice Ao_date t_date.length co_date, .slice Ao_subject t_subject.length co_subject, .slice Ao_from t_from.length co_from, .slice Ao_sender t_sender.length co_sender, .slice Ao_reply t_reply.length co_reply, .slice Ao_to t_to.length co_to, .slice none 0 0, .slice none 0 0, .slice Ao_in t_in.length co_in, .slice Ao_id t_id.length co_id]) BG.out 5 (.slice Ao_to t_to.length co_to) rfl)
   have HB := Aside0.mk (below_set (g := w_id.heap.size) (j := 5) (v := .slice Ao_to t_to.length co_to) HB.out GE.out)
   have R_date := Aside0.mk (Mv.R R_date.out (Mv.set BG.out 6 (.slice Ao_cc t_cc.length co_cc)) (by decide))
   have R_subject := Aside0.mk (Mv.R R_subject.out (Mv.set BG.out 6 (.slice Ao_cc t_cc.length co_cc)) (by decide))
   have R_in := Aside0.mk (Mv.R R_in.out (Mv.set BG.out 6 (.slice Ao_cc t_cc.length co_cc)) (by decide))
   have R_id := Aside0.mk (Mv.R R_id.out (Mv.set BG.out 6 (.slice Ao_cc t_cc.length co_cc)) (by decide))
   have R_from := Aside0.mk (Mv.R R_from.out (Mv.set BG.out 6 (.slice Ao_cc t_cc.length co_cc)) (by decide))
   have R_sender := Aside0.mk (Mv.R R_sender.out (Mv.set BG.out 6 (.slice Ao_cc t_cc.length co_cc)) (by decide))
   have R_reply := Aside0.mk (Mv.R R_reply.out (Mv.set BG.out 6 (.slice Ao_cc t_cc.length co_cc)) (by decide))
   have R_to := Aside0.mk (Mv.R R_to.out (Mv.set BG.out 6 (.slice Ao_cc t_cc.length co_cc)) (by decide))
   have R_cc := Aside0.mk (Mv.R R_cc.out (Mv.set BG.out 6 (.slice Ao_cc t_cc.length co_cc)) (by decide))
   have R_bcc := Aside0.mk (Mv.R R_bcc.out (Mv.set BG.out 6 (.slice Ao_cc t_cc.length co_cc)) (by decide))
   have BR := Aside0.mk (blk_far BR.out (p := ⟨w_id.heap.size, 6, none⟩) NE.out (.slice Ao_cc t_cc.length co_cc))
   have BG := Aside0.mk (blk_put (cs' := #[.slice Ao_date t_date.length co_date, .slice Ao_subject t_subject.length co_subject, .slice Ao_from t_from.length co_from, .slice Ao_sender t_sender.length co_sender, .slice Ao_reply t_reply.length co_reply, .slice Ao_to t_to.length co_to, .slice Ao_cc t_cc.length co_cc, .slice none 0 0, .slice Ao_in t_in.length co_in, .slice Ao_id t_id.length co_id]) BG.out 6 (.slice Ao_cc t_cc.length co_cc) rfl)
   have HB := Aside0.mk (below_set (g := w_id.heap.size) (j := 6) (v := .slice Ao_cc t_cc.length co_cc) HB.out GE.out)
   have R_date := Aside0.mk (Mv.R R_date.out (Mv.set BG.out 7 (.slice Ao_bcc t_bcc.length co_bcc)) (by decide))
   have R_subject := Aside0.mk (Mv.R R_subject.out (Mv.set BG.out 7 (.slice Ao_bcc t_bcc.length co_bcc)) (by decide))
   have R_in := Aside0.mk (Mv.R R_in.out (Mv.set BG.out 7 (.slice Ao_bcc t_bcc.length co_bcc)) (by decide))
   have R_id := Aside0.mk (Mv.R R_id.out (Mv.set BG.out 7 (.slice Ao_bcc t_bcc.length co_bcc)) (by decide))
   have R_from := Aside0.mk (Mv.R R_from.out (Mv.set BG.out 7 (.slice Ao_bcc t_bcc.length co_bcc)) (by decide))
   have R_sender := Aside0.mk (Mv.R R_sender.out (Mv.set BG.out 7 (.slice Ao_bcc t_bcc.length co_bcc)) (by decide))
   have R_reply := Aside0.mk (Mv.R R_reply.out (Mv.set BG.out 7 (.slice Ao_bcc t_bcc.length co_bcc)) (by decide))
   have R_to := Aside0.mk (Mv.R R_to.out (Mv.set BG.out 7 (.slice Ao_bcc t_bcc.length co_bcc)) (by decide))
   have R_cc := Aside0.mk (Mv.R R_cc.out (Mv.set BG.out 7 (.slice Ao_bcc t_bcc.length co_bcc)) (by decide))
   have R_bcc := Aside0.mk (Mv.R R_bcc.out (Mv.set BG.out 7 (.slice Ao_bcc t_bcc.length co_bcc)) (by decide))
   have BR := Aside0.mk (blk_far BR.out (p := ⟨w_id.heap.size, 7, none⟩) NE.out (.slice Ao_bcc t_bcc.length co_bcc))
   have BG := Aside0.mk (blk_put (cs' := #[.slice Ao_date t_date.length co_date, .slice Ao_subject t_subject.length co_subject, .slice Ao_from t_from.length co_from, .slice Ao_sender t_sender.length co_sender, .slice Ao_reply t_reply.length co_reply, .slice Ao_to t_to.length co_to, .slice Ao_cc t_cc.length co_cc, .slice Ao_bcc t_bcc.length co_bcc, .slice Ao_in t_in.length co_in, .slice Ao_id t_id.length co_id]) BG.out 7 (.slice Ao_bcc t_bcc.length co_bcc) rfl)
   have HB := Aside0.mk (below_set (g := w_id.heap.size) (j := 7) (v := .slice Ao_bcc t_bcc.length co_bcc) HB.out GE.out)
   refine (api_Address.calls _ _ t_from q_p _ (Kd.R_reads' R_from.out).2.2 (Kd.R_reads' R_from.out).2.1 Q_p.out).mono ?_
   rintro e w_p ⟨v_p, rfl, hr_p, hb_p⟩
   have R_date := Aside0.mk (Mv.R R_date.out (Mv.below hb_p) (by decide))
   have R_subject := Aside0.mk (Mv.R R_subject.out (Mv.below hb_p) (by decide))
   have R_in := Aside0.mk (Mv.R R_in.out (Mv.below hb_p) (by decide))
   have R_id := Aside0.mk (Mv.R R_id.out (Mv.below hb_p) (by decide))
   have R_from := Aside0.mk (Mv.R R_from.out (Mv.below hb_p) (by decide))
   have R_sender := Aside0.mk (Mv.R R_sender.out (Mv.below hb_p) (by decide))
   have R_reply := Aside0.mk (Mv.R R_reply.out (Mv.below hb_p) (by decide))
   have R_to := Aside0.mk (Mv.R R_to.out (Mv.below hb_p) (by decide))
   have R_cc := Aside0.mk (Mv.R R_cc.out (Mv.below hb_p) (by decide))
   have R_bcc := Aside0.mk (Mv.R R_bcc.out (Mv.below hb_p) (by decide))
   have BR := Aside0.mk (blk_below BR.out hb_p)
   have BG := Aside0.mk (blk_below BG.out hb_p)
   have R_p := Aside0.mk (Kd.R_lower hr_p HB.out.size)
   have HB := Aside0.mk (HB.out.trans (hb_p.mono HB.out.size))
   obtain ⟨Ao_p, co_p, eo_p⟩ := Kd.R_slice hr_p
   subst eo_p
   clear hr_p hb_p
   have hc0 := (blk_cell BG.out 0).trans rfl
   have hc1 := (blk_cell BG.out 1).trans rfl
   have hc2 := (blk_cell BG.out 2).trans rfl
   have hc3 := (blk_cell BG.out 3).trans rfl
   have hc4 := (blk_cell BG.out 4).trans rfl
   have hc5 := (blk_cell BG.out 5).trans rfl
   have hc6 := (blk_cell BG.out 6).trans rfl
   have hc7 := (blk_cell BG.out 7).trans rfl
   have hc8 := (blk_cell BG.out 8).trans rfl
   have hc9 := (blk_cell BG.out 9).trans rfl
   have hf := blk_frozen BG.out
   have H := HH.out
   clear HH
   simp only [Option.some.injEq] at H
   subst H
   have rc0 := (blk_cell BR.out 0).trans (show z10[0]? = some (Value.slice none 0 0) from rfl)
   have rc1 := (blk_cell BR.out 1).trans (show z10[1]? = some (Value.slice none 0 0) from rfl)
   have rc2 := (blk_cell BR.out 2).trans (show z10[2]? = some (Value.slice none 0 0) from rfl)
   have rc3 := (blk_cell BR.out 3).trans (show z10[3]? = some (Value.slice none 0 0) from rfl)
   have rc4 := (blk_cell BR.out 4).trans (show z10[4]? = some (Value.slice none 0 0) from rfl)
   have rc5 := (blk_cell BR.out 5).trans (show z10[5]? = some (Value.slice none 0 0) from rfl)
   have rc6 := (blk_cell BR.out 6).trans (show z10[6]? = some (Value.slice none 0 0) from rfl)
   have rc7 := (blk_cell BR.out 7).trans (show z10[7]? = some (Value.slice none 0 0) from rfl)
   have rc8 := (blk_cell BR.out 8).trans (show z10[8]? = some (Value.slice none 0 0) from rfl)
   have rc9 := (blk_cell BR.out 9).trans (show z10[9]? = some (Value.slice none 0 0) from rfl)
   have rf := blk_frozen BR.out
   have ne := NE.out
   have ne2 := NE.out.symm
   go_wp2_with fail
   clear hc0 hc1 hc2 hc3 hc4 hc5 hc6 hc7 hc8 hc9 hf
   have R_date := Aside0.mk (Mv.R R_date.out (Mv.set BG.out 4 (.slice Ao_p q_p.length co_p)) (by decide))
   have R_subject := Aside0.mk (Mv.R R_subject.out (Mv.set BG.out 4 (.slice Ao_p q_p.length co_p)) (by decide))
   have R_in := Aside0.mk (Mv.R R_in.out (Mv.set BG.out 4 (.slice Ao_p q_p.length co_p)) (by decide))
   have R_id := Aside0.mk (Mv.R R_id.out (Mv.set BG.out 4 (.slice Ao_p q_p.length co_p)) (by decide))
   have R_from := Aside0.mk (Mv.R R_from.out (Mv.set BG.out 4 (.slice Ao_p q_p.length co_p)) (by decide))
   have R_sender := Aside0.mk (Mv.R R_sender.out (Mv.set BG.out 4 (.slice Ao_p q_p.length co_p)) (by decide))
   have R_reply := Aside0.mk (Mv.R R_reply.out (Mv.set BG.out 4 (.slice Ao_p q_p.length co_p)) (by decide))
   have R_to := Aside0.mk (Mv.R R_to.out (Mv.set BG.out 4 (.slice Ao_p q_p.length co_p)) (by decide))
   have R_cc := Aside0.mk (Mv.R R_cc.out (Mv.set BG.out 4 (.slice Ao_p q_p.length co_p)) (by decide))
   have R_bcc := Aside0.mk (Mv.R R_bcc.out (Mv.set BG.out 4 (.slice Ao_p q_p.length co_p)) (by decide))
   have R_p := Aside0.mk (Mv.R R_p.out (Mv.set BG.out 4 (.slice Ao_p q_p.length co_p)) (by decide))
   have BR := Aside0.mk (blk_far BR.out (p := ⟨w_id.heap.size, 4, none⟩) NE.out (.slice Ao_p q_p.length co_p))
   have BG := Aside0.mk (blk_put (cs' := #[.slice Ao_date t_date.length co_date, .slice Ao_subject t_subject.length co_subject, .slice Ao_from t_from.length co_from, .slice Ao_sender t_sender.length co_sender, .slice Ao_p q_p.length co_p, .slice Ao_to t_to.length co_to, .slice Ao_cc t_cc.length co_cc, .slice Ao_bcc t_bcc.length co_bcc, .slice Ao_in t_in.length co_in, .slice Ao_id t_id.length co_id]) BG.out 4 (.slice Ao_p q_p.length co_p) rfl)
   have HB := Aside0.mk (below_set (g := w_id.heap.size) (j := 4) (v := .slice Ao_p q_p.length co_p) HB.out GE.out)
   have BR0 := blk_put (cs' := #[.slice Ao_date t_date.length co_date, .slice none 0 0, .slice none 0 0, .slice none 0 0, .slice none 0 0, .slice none 0 0, .slice none 0 0, .slice none 0 0, .slice none 0 0, .slice none 0 0]) BR.out 0 (.slice Ao_date t_date.length co_date) rfl
   have BR1 := blk_put (cs' := #[.slice Ao_date t_date.length co_date, .slice Ao_subject t_subject.length co_subject, .slice none 0 0, .slice none 0 0, .slice none 0 0, .slice none 0 0, .slice none 0 0, .slice none 0 0, .slice none 0 0, .slice none 0 0]) BR0 1 (.slice Ao_subject t_subject.length co_subject) rfl
   have BR2 := blk_put (cs' := #[.slice Ao_date t_date.length co_date, .slice Ao_subject t_subject.length co_subject, .slice Ao_from t_from.length co_from, .slice none 0 0, .slice none 0 0, .slice none 0 0, .slice none 0 0, .slice none 0 0, .slice none 0 0, .slice none 0 0]) BR1 2 (.slice Ao_from t_from.length co_from) rfl
   have BR3 := blk_put (cs' := #[.slice Ao_date t_date.length co_date, .slice Ao_subject t_subject.length co_subject, .slice Ao_from t_from.length co_from, .slice Ao_sender t_sender.length co_sender, .slice none 0 0, .slice none 0 0, .slice none 0 0, .slice none 0 0, .slice none 0 0, .slice none 0 0]) BR2 3 (.slice Ao_sender t_sender.length co_sender) rfl
   have BR4 := blk_put (cs' := #[.slice Ao_date t_date.length co_date, .slice Ao_subject t_subject.length co_subject, .slice Ao_from t_from.length co_from, .slice Ao_sender t_sender.length co_sender, .slice Ao_p q_p.length co_p, .slice none 0 0, .slice none 0 0, .slice none 0 0, .slice none 0 0, .slice none 0 0]) BR3 4 (.slice Ao_p q_p.length co_p) rfl
   have BR5 := blk_put (cs' := #[.slice Ao_date t_date.length co_date, .slice Ao_subject t_subject.length co_subject, .slice Ao_from t_from.length co_from, .slice Ao_sender t_sender.length co_sender, .slice Ao_p q_p.length co_p, .slice Ao_to t_to.length co_to, .slice none 0 0, .slice none 0 0, .slice none 0 0, .slice none 0 0]) BR4 5 (.slice Ao_to t_to.length co_to) rfl
   have BR6 := blk_put (cs' := #[.slice Ao_date t_date.length co_date, .slice Ao_subject t_subject.length co_subject, .slice Ao_from t_from.length co_from, .slice Ao_sender t_sender.length co_sender, .slice Ao_p q_p.length co_p, .slice Ao_to t_to.length co_to, .slice Ao_cc t_cc.length co_cc, .slice none 0 0, .slice none 0 0, .slice none 0 0]) BR5 6 (.slice Ao_cc t_cc.length co_cc) rfl
   have BR7 := blk_put (cs' := #[.slice Ao_date t_date.length co_date, .slice Ao_subject t_subject.length co_subject, .slice Ao_from t_from.length co_from, .slice Ao_sender t_sender.length co_sender, .slice Ao_p q_p.length co_p, .slice Ao_to t_to.length co_to, .slice Ao_cc t_cc.length co_cc, .slice Ao_bcc t_bcc.length co_bcc, .slice none 0 0, .slice none 0 0]) BR6 7 (.slice Ao_bcc t_bcc.length co_bcc) rfl
   have BR8 := blk_put (cs' := #[.slice Ao_date t_date.length co_date, .slice Ao_subject t_subject.length co_subject, .slice Ao_from t_from.length co_from, .slice Ao_sender t_sender.length co_sender, .slice Ao_p q_p.length co_p, .slice Ao_to t_to.length co_to, .slice Ao_cc t_cc.length co_cc, .slice Ao_bcc t_bcc.length co_bcc, .slice Ao_in t_in.length co_in, .slice none 0 0]) BR7 8 (.slice Ao_in t_in.length co_in) rfl
   have BR9 := blk_put (cs' := #[.slice Ao_date t_date.length co_date, .slice Ao_subject t_subject.length co_subject, .slice Ao_from t_from.length co_from, .slice Ao_sender t_sender.length co_sender, .slice Ao_p q_p.length co_p, .slice Ao_to t_to.length co_to, .slice Ao_cc t_cc.length co_cc, .slice Ao_bcc t_bcc.length co_bcc, .slice Ao_in t_in.length co_in, .slice Ao_id t_id.length co_id]) BR8 9 (.slice Ao_id t_id.length co_id) rfl
   refine bodyPost_ret (results_cell_row rfl _ _ w.heap.size 49 #[.slice Ao_date t_date.length co_date, .slice Ao_subject t_subject.length co_subject, .slice Ao_from t_from.length co_from, .slice Ao_sender t_sender.length co_sender, .slice Ao_p q_p.length co_p, .slice Ao_to t_to.length co_to, .slice Ao_cc t_cc.length co_cc, .slice Ao_bcc t_bcc.length co_bcc, .slice Ao_in t_in.length co_in, .slice Ao_id t_id.length co_id] (0, 0) _ rfl BR9 Tryd.underlying49 rfl (by kernel_rfl)) rfl ?_
   have MV := ((((((((((Mv.set BR.out 0 (.slice Ao_date t_date.length co_date)).trans (Mv.set BR0 1 (.slice Ao_subject t_subject.length co_subject))).trans (Mv.set BR1 2 (.slice Ao_from t_from.length co_from))).trans (Mv.set BR2 3 (.slice Ao_sender t_sender.length co_sender))).trans (Mv.set BR3 4 (.slice Ao_p q_p.length co_p))).trans (Mv.set BR4 5 (.slice Ao_to t_to.length co_to))).trans (Mv.set BR5 6 (.slice Ao_cc t_cc.length co_cc))).trans (Mv.set BR6 7 (.slice Ao_bcc t_bcc.length co_bcc))).trans (Mv.set BR7 8 (.slice Ao_in t_in.length co_in))).trans (Mv.set BR8 9 (.slice Ao_id t_id.length co_id)))
   have F0 := Kd.R_reads' (Mv.R R_date.out MV (by decide))
   have F1 := Kd.R_reads' (Mv.R R_subject.out MV (by decide))
   have F2 := Kd.R_reads' (Mv.R R_from.out MV (by decide))
   have F3 := Kd.R_reads' (Mv.R R_sender.out MV (by decide))
   have F4 := Kd.R_reads' (Mv.R R_p.out MV (by decide))
   have F5 := Kd.R_reads' (Mv.R R_to.out MV (by decide))
   have F6 := Kd.R_reads' (Mv.R R_cc.out MV (by decide))
   have F7 := Kd.R_reads' (Mv.R R_bcc.out MV (by decide))
   have F8 := Kd.R_reads' (Mv.R R_in.out MV (by decide))
   have F9 := Kd.R_reads' (Mv.R R_id.out MV (by decide))
   exact ⟨_, rfl, ⟨_, _, _, _, _, _, _, _, _, _, _, _, _, _, _, _, _, _, _, _, rfl, ⟨F0.2.2, F0.2.1⟩, ⟨F1.2.2, F1.2.1⟩, ⟨F2.2.2, F2.2.1⟩, ⟨F3.2.2, F3.2.1⟩, ⟨F4.2.2, F4.2.1⟩, ⟨F5.2.2, F5.2.1⟩, ⟨F6.2.2, F6.2.1⟩, ⟨F7.2.2, F7.2.1⟩, ⟨F8.2.2, F8.2.1⟩, ⟨F9.2.2, F9.2.1⟩⟩, (below_set (g := w.heap.size) (j := 9) (v := .slice Ao_id t_id.length co_id) (below_set (g := w.heap.size) (j := 8) (v := .slice Ao_in t_in.length co_in) (below_set (g := w.heap.size) (j := 7) (v := .slice Ao_bcc t_bcc.length co_bcc) (below_set (g := w.heap.size) (j := 6) (v := .slice Ao_cc t_cc.length co_cc) (below_set (g := w.heap.size) (j := 5) (v := .slice Ao_to t_to.length co_to) (below_set (g := w.heap.size) (j := 4) (v := .slice Ao_p q_p.length co_p) (below_set (g := w.heap.size) (j := 3) (v := .slice Ao_sender t_sender.length co_sender) (below_set (g := w.heap.size) (j := 2) (v := .slice Ao_from t_from.length co_from) (below_set (g := w.heap.size) (j := 1) (v := .slice Ao_subject t_subject.length co_subject) (below_set (g := w.heap.size) (j := 0) (v := .slice Ao_date t_date.length co_date) HB.out (Nat.le_refl _)) (Nat.le_refl _)) (Nat.le_refl _)) (Nat.le_refl _)) (Nat.le_refl _)) (Nat.le_refl _)) (Nat.le_refl _)) (Nat.le_refl _)) (Nat.le_refl _)) (Nat.le_refl _))⟩
  ·
   have hb4 : ((t_reply.length : Int) == 0) = false := beq_eq_false_iff_ne.2 h4
   have H := HH.out
   rw [if_neg h4] at H
   have HH := Aside0.mk H
   clear H
   have H := HH.out
   clear HH
   simp only [Option.some.injEq] at H
   subst H
   have rc0 := (blk_cell BR.out 0).trans (show z10[0]? = some (Value.slice none 0 0) from rfl)
   have rc1 := (blk_cell BR.out 1).trans (show z10[1]? = some (Value.slice none 0 0) from rfl)
   have rc2 := (blk_cell BR.out 2).trans (show z10[2]? = some (Value.slice none 0 0) from rfl)
   have rc3 := (blk_cell BR.out 3).trans (show z10[3]? = some (Value.slice none 0 0) from rfl)
   have rc4 := (blk_cell BR.out 4).trans (show z10[4]? = some (Value.slice none 0 0) from rfl)
   have rc5 := (blk_cell BR.out 5).trans (show z10[5]? = some (Value.slice none 0 0) from rfl)
   have rc6 := (blk_cell BR.out 6).trans (show z10[6]? = some (Value.slice none 0 0) from rfl)
   have rc7 := (blk_cell BR.out 7).trans (show z10[7]? = some (Value.slice none 0 0) from rfl)
   have rc8 := (blk_cell BR.out 8).trans (show z10[8]? = some (Value.slice none 0 0) from rfl)
   have rc9 := (blk_cell BR.out 9).trans (show z10[9]? = some (Value.slice none 0 0) from rfl)
   have rf := blk_frozen BR.out
   have ne := NE.out
   have ne2 := NE.out.symm
   go_wp2_with fail
   clear hc0 hc1 hc2 hc3 hc4 hc5 hc6 hc7 hc8 hc9 hf
   have R_date := Aside0.mk (Mv.R R_date.out (Mv.set BG.out 5 (.slice Ao_to t_to.length co_to)) (by decide))
   have R_subject := Aside0.mk (Mv.R R_subject.out (Mv.set BG.out 5 (.slice Ao_to t_to.length co_to)) (by decide))
   have R_in := Aside0.mk (Mv.R R_in.out (Mv.set BG.out 5 (.slice Ao_to t_to.length co_to)) (by decide))
   have R_id := Aside0.mk (Mv.R R_id.out (Mv.set BG.out 5 (.slice Ao_to t_to.length co_to)) (by decide))
   have R_from := Aside0.mk (Mv.R R_from.out (Mv.set BG.out 5 (.slice Ao_to t_to.length co_to)) (by decide))
   have R_sender := Aside0.mk (Mv.R R_sender.out (Mv.set BG.out 5 (.slice Ao_to t_to.length co_to)) (by decide))
   have R_reply := Aside0.mk (Mv.R R_reply.out (Mv.set BG.out 5 (.slice Ao_to t_to.length co_to)) (by decide))
   have R_to := Aside0.mk (Mv.R R_to.out (Mv.set BG.out 5 (.slice Ao_to t_to.length co_to)) (by decide))
   have R_cc := Aside0.mk (Mv.R R_cc.out (Mv.set BG.out 5 (.slice Ao_to t_to.length co_to)) (by decide))
   have R_bcc := Aside0.mk (Mv.R R_bcc.out (Mv.set BG.out 5 (.slice Ao_to t_to.length co_to)) (by decide))
   have BR := Aside0.mk (blk_far BR.out (p := ⟨w_id.heap.size, 5, none⟩) NE.out (.slice Ao_to t_to.length co_to))
   have BG := Aside0.mk (blk_put (cs' := #[.slice Ao_date t_date.length co_date, .slice Ao_subject t_subject.length co_subject, .slice Ao_from t_from.length co_from, .slice Ao_sender t_sender.length co_sender, .slice Ao_reply t_reply.length co_reply, .slice Ao_to t_to.length co_to, .slice none 0 0, .slice none 0 0, .slice Ao_in t_in.length co_in, .slice Ao_id t_id.length co_id]) BG.out 5 (.slice Ao_to t_to.length co_to) rfl)
   have HB := Aside0.mk (below_set (g := w_id.heap.size) (j := 5) (v := .slice Ao_to t_to.length co_to) HB.out GE.out)
   have R_date := Aside0.mk (Mv.R R_date.out (Mv.set BG.out 6 (.slice Ao_cc t_cc.length co_cc)) (by decide))
   have R_subject := Aside0.mk (Mv.R R_subject.out (Mv.set BG.out 6 (.slice Ao_cc t_cc.length co_cc)) (by decide))
   have R_in := Aside0.mk (Mv.R R_in.out (Mv.set BG.out 6 (.slice Ao_cc t_cc.length co_cc)) (by decide))
   have R_id := Aside0.mk (Mv.R R_id.out (Mv.set BG.out 6 (.slice Ao_cc t_cc.length co_cc)) (by decide))
   have R_from := Aside0.mk (Mv.R R_from.out (Mv.set BG.out 6 (.slice Ao_cc t_cc.length co_cc)) (by decide))
   have R_sender := Aside0.mk (Mv.R R_sender.out (Mv.set BG.out 6 (.slice Ao_cc t_cc.length co_cc)) (by decide))
   have R_reply := Aside0.mk (Mv.R R_reply.out (Mv.set BG.out 6 (.slice Ao_cc t_cc.length co_cc)) (by decide))
   have R_to := Aside0.mk (Mv.R R_to.out (Mv.set BG.out 6 (.slice Ao_cc t_cc.length co_cc)) (by decide))
   have R_cc := Aside0.mk (Mv.R R_cc.out (Mv.set BG.out 6 (.slice Ao_cc t_cc.length co_cc)) (by decide))
   have R_bcc := Aside0.mk (Mv.R R_bcc.out (Mv.set BG.out 6 (.slice Ao_cc t_cc.length co_cc)) (by decide))
   have BR := Aside0.mk (blk_far BR.out (p := ⟨w_id.heap.size, 6, none⟩) NE.out (.slice Ao_cc t_cc.length co_cc))
   have BG := Aside0.mk (blk_put (cs' := #[.slice Ao_date t_date.length co_date, .slice Ao_subject t_subject.length co_subject, .slice Ao_from t_from.length co_from, .slice Ao_sender t_sender.length co_sender, .slice Ao_reply t_reply.length co_reply, .slice Ao_to t_to.length co_to, .slice Ao_cc t_cc.length co_cc, .slice none 0 0, .slice Ao_in t_in.length co_in, .slice Ao_id t_id.length co_id]) BG.out 6 (.slice Ao_cc t_cc.length co_cc) rfl)
   have HB := Aside0.mk (below_set (g := w_id.heap.size) (j := 6) (v := .slice Ao_cc t_cc.length co_cc) HB.out GE.out)
   have R_date := Aside0.mk (Mv.R R_date.out (Mv.set BG.out 7 (.slice Ao_bcc t_bcc.length co_bcc)) (by decide))
   have R_subject := Aside0.mk (Mv.R R_subject.out (Mv.set BG.out 7 (.slice Ao_bcc t_bcc.length co_bcc)) (by decide))
   have R_in := Aside0.mk (Mv.R R_in.out (Mv.set BG.out 7 (.slice Ao_bcc t_bcc.length co_bcc)) (by decide))
   have R_id := Aside0.mk (Mv.R R_id.out (Mv.set BG.out 7 (.slice Ao_bcc t_bcc.length co_bcc)) (by decide))
   have R_from := Aside0.mk (Mv.R R_from.out (Mv.set BG.out 7 (.slice Ao_bcc t_bcc.length co_bcc)) (by decide))
   have R_sender := Aside0.mk (Mv.R R_sender.out (Mv.set BG.out 7 (.slice Ao_bcc t_bcc.length co_bcc)) (by decide))
   have R_reply := Aside0.mk (Mv.R R_reply.out (Mv.set BG.out 7 (.slice Ao_bcc t_bcc.length co_bcc)) (by decide))
   have R_to := Aside0.mk (Mv.R R_to.out (Mv.set BG.out 7 (.slice Ao_bcc t_bcc.length co_bcc)) (by decide))
   have R_cc := Aside0.mk (Mv.R R_cc.out (Mv.set BG.out 7 (.slice Ao_bcc t_bcc.length co_bcc)) (by decide))
   have R_bcc := Aside0.mk (Mv.R R_bcc.out (Mv.set BG.out 7 (.slice Ao_bcc t_bcc.length co_bcc)) (by decide))
   have BR := Aside0.mk (blk_far BR.out (p := ⟨w_id.heap.size, 7, none⟩) NE.out (.slice Ao_bcc t_bcc.length co_bcc))
   have BG := Aside0.mk (blk_put (cs' := #[.slice Ao_date t_date.length co_date, .slice Ao_subject t_subject.length co_subject, .slice Ao_from t_from.length co_from, .slice Ao_sender t_sender.length co_sender, .slice Ao_reply t_reply.length co_reply, .slice Ao_to t_to.length co_to, .slice Ao_cc t_cc.length co_cc, .slice Ao_bcc t_bcc.length co_bcc, .slice Ao_in t_in.length co_in, .slice Ao_id t_id.length co_id]) BG.out 7 (.slice Ao_bcc t_bcc.length co_bcc) rfl)
   have HB := Aside0.mk (below_set (g := w_id.heap.size) (j := 7) (v := .slice Ao_bcc t_bcc.length co_bcc) HB.out GE.out)
   have BR0 := blk_put (cs' := #[.slice Ao_date t_date.length co_date, .slice none 0 0, .slice none 0 0, .slice none 0 0, .slice none 0 0, .slice none 0 0, .slice none 0 0, .slice none 0 0, .slice none 0 0, .slice none 0 0]) BR.out 0 (.slice Ao_date t_date.length co_date) rfl
   have BR1 := blk_put (cs' := #[.slice Ao_date t_date.length co_date, .slice Ao_subject t_subject.length co_subject, .slice none 0 0, .slice none 0 0, .slice none 0 0, .slice none 0 0, .slice none 0 0, .slice none 0 0, .slice none 0 0, .slice none 0 0]) BR0 1 (.slice Ao_subject t_subject.length co_subject) rfl
   have BR2 := blk_put (cs' := #[.slice Ao_date t_date.length co_date, .slice Ao_subject t_subject.length co_subject, .slice Ao_from t_from.length co_from, .slice none 0 0, .slice none 0 0, .slice none 0 0, .slice none 0 0, .slice none 0 0, .slice none 0 0, .slice none 0 0]) BR1 2 (.slice Ao_from t_from.length co_from) rfl
   have BR3 := blk_put (cs' := #[.slice Ao_date t_date.length co_date, .slice Ao_subject t_subject.length co_subject, .slice Ao_from t_from.length co_from, .slice Ao_sender t_sender.length co_sender, .slice none 0 0, .slice none 0 0, .slice none 0 0, .slice none 0 0, .slice none 0 0, .slice none 0 0]) BR2 3 (.slice Ao_sender t_sender.length co_sender) rfl
   have BR4 := blk_put (cs' := #[.slice Ao_date t_date.length co_date, .slice Ao_subject t_subject.length co_subject, .slice Ao_from t_from.length co_from, .slice Ao_sender t_sender.length co_sender, .slice Ao_reply t_reply.length co_reply, .slice none 0 0, .slice none 0 0, .slice none 0 0, .slice none 0 0, .slice none 0 0]) BR3 4 (.slice Ao_reply t_reply.length co_reply) rfl
   have BR5 := blk_put (cs' := #[.slice Ao_date t_date.length co_date, .slice Ao_subject t_subject.length co_subject, .slice Ao_from t_from.length co_from, .slice Ao_sender t_sender.length co_sender, .slice Ao_reply t_reply.length co_reply, .slice Ao_to t_to.length co_to, .slice none 0 0, .slice none 0 0, .slice none 0 0, .slice none 0 0]) BR4 5 (.slice Ao_to t_to.length co_to) rfl
   have BR6 := blk_put (cs' := #[.slice Ao_date t_date.length co_date, .slice Ao_subject t_subject.length co_subject, .slice Ao_from t_from.length co_from, .slice Ao_sender t_sender.length co_sender, .slice Ao_reply t_reply.length co_reply, .slice Ao_to t_to.length co_to, .slice Ao_cc t_cc.length co_cc, .slice none 0 0, .slice none 0 0, .slice none 0 0]) BR5 6 (.slice Ao_cc t_cc.length co_cc) rfl
   have BR7 := blk_put (cs' := #[.slice Ao_date t_date.length co_date, .slice Ao_subject t_subject.length co_subject, .slice Ao_from t_from.length co_from, .slice Ao_sender t_sender.length co_sender, .slice Ao_reply t_reply.length co_reply, .slice Ao_to t_to.length co_to, .slice Ao_cc t_cc.length co_cc, .slice Ao_bcc t_bcc.length co_bcc, .slice none 0 0, .slice none 0 0]) BR6 7 (.slice Ao_bcc t_bcc.length co_bcc) rfl
   have BR8 := blk_put (cs' := #[.slice Ao_date t_date.length co_date, .slice Ao_subject t_subject.length co_subject, .slice Ao_from t_from.length co_from, .slice Ao_sender t_sender.length co_sender, .slice Ao_reply t_reply.length co_reply, .slice Ao_to t_to.length co_to, .slice Ao_cc t_cc.length co_cc, .slice Ao_bcc t_bcc.length co_bcc, .slice Ao_in t_in.length co_in, .slice none 0 0]) BR7 8 (.slice Ao_in t_in.length co_in) rfl
   have BR9 := blk_put (cs' := #[.slice Ao_date t_date.length co_date, .slice Ao_subject t_subject.length co_subject, .slice Ao_from t_from.length co_from, .slice Ao_sender t_sender.length co_sender, .slice Ao_reply t_reply.length co_reply, .slice Ao_to t_to.length co_to, .slice Ao_cc t_cc.length co_cc, .slice Ao_bcc t_bcc.length co_bcc, .slice Ao_in t_in.length co_in, .slice Ao_id t_id.length co_id]) BR8 9 (.slice Ao_id t_id.length co_id) rfl
   refine bodyPost_ret (results_cell_row rfl _ _ w.heap.size 49 #[.slice Ao_date t_date.length co_date, .slice Ao_subject t_subject.length co_subject, .slice Ao_from t_from.length co_from, .slice Ao_sender t_sender.length co_sender, .slice Ao_reply t_reply.length co_reply, .slice Ao_to t_to.length co_to, .slice Ao_cc t_cc.length co_cc, .slice Ao_bcc t_bcc.length co_bcc, .slice Ao_in t_in.length co_in, .slice Ao_id t_id.length co_id] (0, 0) _ rfl BR9 Tryd.underlying49 rfl (by kernel_rfl)) rfl ?_
   have MV := ((((((((((Mv.set BR.out 0 (.slice Ao_date t_date.length co_date)).trans (Mv.set BR0 1 (.slice Ao_subject t_subject.length co_subject))).trans (Mv.set BR1 2 (.slice Ao_from t_from.length co_from))).trans (Mv.set BR2 3 (.slice Ao_sender t_sender.length co_sender))).trans (Mv.set BR3 4 (.slice Ao_reply t_reply.length co_reply))).trans (Mv.set BR4 5 (.slice Ao_to t_to.length co_to))).trans (Mv.set BR5 6 (.slice Ao_cc t_cc.length co_cc))).trans (Mv.set BR6 7 (.slice Ao_bcc t_bcc.length co_bcc))).trans (Mv.set BR7 8 (.slice Ao_in t_in.length co_in))).trans (Mv.set BR8 9 (.slice Ao_id t_id.length co_id)))
   have F0 := Kd.R_reads' (Mv.R R_date.out MV (by decide))
   have F1 := Kd.R_reads' (Mv.R R_subject.out MV (by decide))
   have F2 := Kd.R_reads' (Mv.R R_from.out MV (by decide))
   have F3 := Kd.R_reads' (Mv.R R_sender.out MV (by decide))
   have F4 := Kd.R_reads' (Mv.R R_reply.out MV (by decide))
   have F5 := Kd.R_reads' (Mv.R R_to.out MV (by decide))
   have F6 := Kd.R_reads' (Mv.R R_cc.out MV (by decide))
   have F7 := Kd.R_reads' (Mv.R R_bcc.out MV (by decide))
   have F8 := Kd.R_reads' (Mv.R R_in.out MV (by decide))
   have F9 := Kd.R_reads' (Mv.R R_id.out MV (by decide))
   exact ⟨_, rfl, ⟨_, _, _, _, _, _, _, _, _, _, _, _, _, _, _, _, _, _, _, _, rfl, ⟨F0.2.2, F0.2.1⟩, ⟨F1.2.2, F1.2.1⟩, ⟨F2.2.2, F2.2.1⟩, ⟨F3.2.2, F3.2.1⟩, ⟨F4.2.2, F4.2.1⟩, ⟨F5.2.2, F5.2.1⟩, ⟨F6.2.2, F6.2.1⟩, ⟨F7.2.2, F7.2.1⟩, ⟨F8.2.2, F8.2.1⟩, ⟨F9.2.2, F9.2.1⟩⟩, (below_set (g := w.heap.size) (j := 9) (v := .slice Ao_id t_id.length co_id) (below_set (g := w.heap.size) (j := 8) (v := .slice Ao_in t_in.length co_in) (below_set (g := w.heap.size) (j := 7) (v := .slice Ao_bcc t_bcc.length co_bcc) (below_set (g := w.heap.size) (j := 6) (v := .slice Ao_cc t_cc.length co_cc) (below_set (g := w.heap.size) (j := 5) (v := .slice Ao_to t_to.length co_to) (below_set (g := w.heap.size) (j := 4) (v := .slice Ao_reply t_reply.length co_reply) (below_set (g := w.heap.size) (j := 3) (v := .slice Ao_sender t_sender.length co_sender) (below_set (g := w.heap.size) (j := 2) (v := .slice Ao_from t_from.length co_from) (below_set (g := w.heap.size) (j := 1) (v := .slice Ao_subject t_subject.length co_subject) (below_set (g := w.heap.size) (j := 0) (v := .slice Ao_date t_date.length co_date) HB.out (Nat.le_refl _)) (Nat.le_refl _)) (Nat.le_refl _)) (Nat.le_refl _)) (Nat.le_refl _)) (Nat.le_refl _)) (Nat.le_refl _)) (Nat.le_refl _)) (Nat.le_refl _)) (Nat.le_refl _))⟩
set_option maxHeartbeats 16000000 in
set_option maxRecDepth 100000 in
theorem haversackref10_Envelope.callsE (k : Nat) (A0 : Option Addr) (c0 : Nat) (l0 : List S37) (r) (w : World) (hr0 : Kd.C k37 w A0 l0.length l0) (hc0 : l0.length ≤ c0) (h : haversackref10_Envelope.f k l0 = some r) :
  Calls Tryd.prog 30 #[.slice A0 l0.length c0] w fun e w' => ∃ v, e = .returned v ∧ EnvR w' v r ∧ Below w.heap.size w w' := by
 have hu49 := Tryd.underlying49
 have HR0 := Aside0.mk hr0
 have HC0 := Aside0.mk hc0
 clear hr0 hc0
 have H := h
 clear h
 unfold haversackref10_Envelope.f at H
 obtain ⟨t_from, a_from, H⟩ := Option.bind_eq_some_iff.1 H
 have A_from := Aside0.mk a_from
 clear a_from
 obtain ⟨t_date, a_date, H⟩ := Option.bind_eq_some_iff.1 H
 have A_date := Aside0.mk a_date
 clear a_date
 obtain ⟨t_subject, a_subject, H⟩ := Option.bind_eq_some_iff.1 H
 have A_subject := Aside0.mk a_subject
 clear a_subject
 obtain ⟨t_sender, a_sender, H⟩ := Option.bind_eq_some_iff.1 H
 have A_sender := Aside0.mk a_sender
 clear a_sender
 obtain ⟨t_reply, a_reply, H⟩ := Option.bind_eq_some_iff.1 H
 have A_reply := Aside0.mk a_reply
 clear a_reply
 obtain ⟨t_to, a_to, H⟩ := Option.bind_eq_some_iff.1 H
 have A_to := Aside0.mk a_to
 clear a_to
 obtain ⟨t_cc, a_cc, H⟩ := Option.bind_eq_some_iff.1 H
 have A_cc := Aside0.mk a_cc
 clear a_cc
 obtain ⟨t_bcc, a_bcc, H⟩ := Option.bind_eq_some_iff.1 H
 have A_bcc := Aside0.mk a_bcc
 clear a_bcc
 obtain ⟨t_in, a_in, H⟩ := Option.bind_eq_some_iff.1 H
 have A_in := Aside0.mk a_in
 clear a_in
 obtain ⟨t_id, a_id, H⟩ := Option.bind_eq_some_iff.1 H
 have A_id := Aside0.mk a_id
 clear a_id
 have HH := Aside0.mk H
 clear H
 have HGl : w.heap.size < (w.alloc (.cells z10 49)).heap.size := by simp
 have BR := Aside0.mk (show (w.alloc (.cells z10 49)).heap[w.heap.size]? = some (.cells z10 49 (0, 0)) from heap_alloc_new w _)
 have HB := Aside0.mk ((Below.refl w.heap.size w).alloc (Nat.le_refl _) (.cells z10 49))
 go_enter Tryd.func30, Tryd.ntmps30
 go_wp2_with fail
 refine (haversackref10_people.calls k _ _ l0 (⟨#[102, 114, 111, 109]⟩ : ByteArray) t_from _ (Kd.C_below HR0.out HB.out) HC0.out A_from.out).mono ?_
 rintro e w_from ⟨v_from, rfl, hr_from, hb_from⟩
 have BR := Aside0.mk (blk_below BR.out hb_from)
 have R_from := Aside0.mk (Kd.R_lower hr_from HB.out.size)
 have HB := Aside0.mk (HB.out.trans (hb_from.mono HB.out.size))
 obtain ⟨Ao_from, co_from, eo_from⟩ := Kd.R_slice hr_from
 subst eo_from
 clear hr_from hb_from A_from
 go_wp2_with fail
 refine (haversackref10_one.calls k _ _ l0 (⟨#[100, 97, 116, 101]⟩ : ByteArray) t_date _ (Kd.C_below HR0.out HB.out) HC0.out A_date.out).mono ?_
 rintro e w_date ⟨v_date, rfl, hr_date, hb_date⟩
 have R_from := Aside0.mk (Mv.R R_from.out (Mv.below hb_date) (by decide))
 have BR := Aside0.mk (blk_below BR.out hb_date)
 have R_date := Aside0.mk (Kd.R_lower hr_date HB.out.size)
 have HB := Aside0.mk (HB.out.trans (hb_date.mono HB.out.size))
 obtain ⟨Ao_date, co_date, eo_date⟩ := Kd.R_slice hr_date
 subst eo_date
 clear hr_date hb_date A_date
 go_wp2_with fail
 refine (haversackref10_one.calls k _ _ l0 (⟨#[115, 117, 98, 106, 101, 99, 116]⟩ : ByteArray) t_subject _ (Kd.C_below HR0.out HB.out) HC0.out A_subject.out).mono ?_
 rintro e w_subject ⟨v_subject, rfl, hr_subject, hb_subject⟩
 have R_from := Aside0.mk (Mv.R R_from.out (Mv.below hb_subject) (by decide))
 have R_date := Aside0.mk (Mv.R R_date.out (Mv.below hb_subject) (by decide))
 have BR := Aside0.mk (blk_below BR.out hb_subject)
 have R_subject := Aside0.mk (Kd.R_lower hr_subject HB.out.size)
 have HB := Aside0.mk (HB.out.trans (hb_subject.mono HB.out.size))
 obtain ⟨Ao_subject, co_subject, eo_subject⟩ := Kd.R_slice hr_subject
 subst eo_subject
 clear hr_subject hb_subject A_subject
 go_wp2_with fail
 refine (haversackref10_people.calls k _ _ l0 (⟨#[115, 101, 110, 100, 101, 114]⟩ : ByteArray) t_sender _ (Kd.C_below HR0.out HB.out) HC0.out A_sender.out).mono ?_
 rintro e w_sender ⟨v_sender, rfl, hr_sender, hb_sender⟩
 have R_from := Aside0.mk (Mv.R R_from.out (Mv.below hb_sender) (by decide))
 have R_date := Aside0.mk (Mv.R R_date.out (Mv.below hb_sender) (by decide))
 have R_subject := Aside0.mk (Mv.R R_subject.out (Mv.below hb_sender) (by decide))
 have BR := Aside0.mk (blk_below BR.out hb_sender)
 have R_sender := Aside0.mk (Kd.R_lower hr_sender HB.out.size)
 have HB := Aside0.mk (HB.out.trans (hb_sender.mono HB.out.size))
 obtain ⟨Ao_sender, co_sender, eo_sender⟩ := Kd.R_slice hr_sender
 subst eo_sender
 clear hr_sender hb_sender A_sender
 go_wp2_with fail
 refine (haversackref10_people.calls k _ _ l0 (⟨#[114, 101, 112, 108, 121, 45, 116, 111]⟩ : ByteArray) t_reply _ (Kd.C_below HR0.out HB.out) HC0.out A_reply.out).mono ?_
 rintro e w_reply ⟨v_reply, rfl, hr_reply, hb_reply⟩
 have R_from := Aside0.mk (Mv.R R_from.out (Mv.below hb_reply) (by decide))
 have R_date := Aside0.mk (Mv.R R_date.out (Mv.below hb_reply) (by decide))
 have R_subject := Aside0.mk (Mv.R R_subject.out (Mv.below hb_reply) (by decide))
 have R_sender := Aside0.mk (Mv.R R_sender.out (Mv.below hb_reply) (by decide))
 have BR := Aside0.mk (blk_below BR.out hb_reply)
 have R_reply := Aside0.mk (Kd.R_lower hr_reply HB.out.size)
 have HB := Aside0.mk (HB.out.trans (hb_reply.mono HB.out.size))
 obtain ⟨Ao_reply, co_reply, eo_reply⟩ := Kd.R_slice hr_reply
 subst eo_reply
 clear hr_reply hb_reply A_reply
 go_wp2_with fail
 refine (haversackref10_people.calls k _ _ l0 (⟨#[116, 111]⟩ : ByteArray) t_to _ (Kd.C_below HR0.out HB.out) HC0.out A_to.out).mono ?_
 rintro e w_to ⟨v_to, rfl, hr_to, hb_to⟩
 have R_from := Aside0.mk (Mv.R R_from.out (Mv.below hb_to) (by decide))
 have R_date := Aside0.mk (Mv.R R_date.out (Mv.below hb_to) (by decide))
 have R_subject := Aside0.mk (Mv.R R_subject.out (Mv.below hb_to) (by decide))
 have R_sender := Aside0.mk (Mv.R R_sender.out (Mv.below hb_to) (by decide))
 have R_reply := Aside0.mk (Mv.R R_reply.out (Mv.below hb_to) (by decide))
 have BR := Aside0.mk (blk_below BR.out hb_to)
 have R_to := Aside0.mk (Kd.R_lower hr_to HB.out.size)
 have HB := Aside0.mk (HB.out.trans (hb_to.mono HB.out.size))
 obtain ⟨Ao_to, co_to, eo_to⟩ := Kd.R_slice hr_to
 subst eo_to
 clear hr_to hb_to A_to
 go_wp2_with fail
 refine (haversackref10_people.calls k _ _ l0 (⟨#[99, 99]⟩ : ByteArray) t_cc _ (Kd.C_below HR0.out HB.out) HC0.out A_cc.out).mono ?_
 rintro e w_cc ⟨v_cc, rfl, hr_cc, hb_cc⟩
 have R_from := Aside0.mk (Mv.R R_from.out (Mv.below hb_cc) (by decide))
 have R_date := Aside0.mk (Mv.R R_date.out (Mv.below hb_cc) (by decide))
 have R_subject := Aside0.mk (Mv.R R_subject.out (Mv.below hb_cc) (by decide))
 have R_sender := Aside0.mk (Mv.R R_sender.out (Mv.below hb_cc) (by decide))
 have R_reply := Aside0.mk (Mv.R R_reply.out (Mv.below hb_cc) (by decide))
 have R_to := Aside0.mk (Mv.R R_to.out (Mv.below hb_cc) (by decide))
 have BR := Aside0.mk (blk_below BR.out hb_cc)
 have R_cc := Aside0.mk (Kd.R_lower hr_cc HB.out.size)
 have HB := Aside0.mk (HB.out.trans (hb_cc.mono HB.out.size))
 obtain ⟨Ao_cc, co_cc, eo_cc⟩ := Kd.R_slice hr_cc
 subst eo_cc
 clear hr_cc hb_cc A_cc
 go_wp2_with fail
 refine (haversackref10_people.calls k _ _ l0 (⟨#[98, 99, 99]⟩ : ByteArray) t_bcc _ (Kd.C_below HR0.out HB.out) HC0.out A_bcc.out).mono ?_
 rintro e w_bcc ⟨v_bcc, rfl, hr_bcc, hb_bcc⟩
 have R_from := Aside0.mk (Mv.R R_from.out (Mv.below hb_bcc) (by decide))
 have R_date := Aside0.mk (Mv.R R_date.out (Mv.below hb_bcc) (by decide))
 have R_subject := Aside0.mk (Mv.R R_subject.out (Mv.below hb_bcc) (by decide))
 have R_sender := Aside0.mk (Mv.R R_sender.out (Mv.below hb_bcc) (by decide))
 have R_reply := Aside0.mk (Mv.R R_reply.out (Mv.below hb_bcc) (by decide))
 have R_to := Aside0.mk (Mv.R R_to.out (Mv.below hb_bcc) (by decide))
 have R_cc := Aside0.mk (Mv.R R_cc.out (Mv.below hb_bcc) (by decide))
 have BR := Aside0.mk (blk_below BR.out hb_bcc)
 have R_bcc := Aside0.mk (Kd.R_lower hr_bcc HB.out.size)
 have HB := Aside0.mk (HB.out.trans (hb_bcc.mono HB.out.size))
 obtain ⟨Ao_bcc, co_bcc, eo_bcc⟩ := Kd.R_slice hr_bcc
 subst eo_bcc
 clear hr_bcc hb_bcc A_bcc
 go_wp2_with fail
 refine (haversackref10_one.calls k _ _ l0 (⟨#[105, 110, 45, 114, 101, 112, 108, 121, 45, 116, 111]⟩ : ByteArray) t_in _ (Kd.C_below HR0.out HB.out) HC0.out A_in.out).mono ?_
 rintro e w_in ⟨v_in, rfl, hr_in, hb_in⟩
 have R_from := Aside0.mk (Mv.R R_from.out (Mv.below hb_in) (by decide))
 have R_date := Aside0.mk (Mv.R R_date.out (Mv.below hb_in) (by decide))
 have R_subject := Aside0.mk (Mv.R R_subject.out (Mv.below hb_in) (by decide))
 have R_sender := Aside0.mk (Mv.R R_sender.out (Mv.below hb_in) (by decide))
 have R_reply := Aside0.mk (Mv.R R_reply.out (Mv.below hb_in) (by decide))
 have R_to := Aside0.mk (Mv.R R_to.out (Mv.below hb_in) (by decide))
 have R_cc := Aside0.mk (Mv.R R_cc.out (Mv.below hb_in) (by decide))
 have R_bcc := Aside0.mk (Mv.R R_bcc.out (Mv.below hb_in) (by decide))
 have BR := Aside0.mk (blk_below BR.out hb_in)
 have R_in := Aside0.mk (Kd.R_lower hr_in HB.out.size)
 have HB := Aside0.mk (HB.out.trans (hb_in.mono HB.out.size))
 obtain ⟨Ao_in, co_in, eo_in⟩ := Kd.R_slice hr_in
 subst eo_in
 clear hr_in hb_in A_in
 go_wp2_with fail
 refine (haversackref10_one.calls k _ _ l0 (⟨#[109, 101, 115, 115, 97, 103, 101, 45, 105, 100]⟩ : ByteArray) t_id _ (Kd.C_below HR0.out HB.out) HC0.out A_id.out).mono ?_
 rintro e w_id ⟨v_id, rfl, hr_id, hb_id⟩
 have R_from := Aside0.mk (Mv.R R_from.out (Mv.below hb_id) (by decide))
 have R_date := Aside0.mk (Mv.R R_date.out (Mv.below hb_id) (by decide))
 have R_subject := Aside0.mk (Mv.R R_subject.out (Mv.below hb_id) (by decide))
 have R_sender := Aside0.mk (Mv.R R_sender.out (Mv.below hb_id) (by decide))
 have R_reply := Aside0.mk (Mv.R R_reply.out (Mv.below hb_id) (by decide))
 have R_to := Aside0.mk (Mv.R R_to.out (Mv.below hb_id) (by decide))
 have R_cc := Aside0.mk (Mv.R R_cc.out (Mv.below hb_id) (by decide))
 have R_bcc := Aside0.mk (Mv.R R_bcc.out (Mv.below hb_id) (by decide))
 have R_in := Aside0.mk (Mv.R R_in.out (Mv.below hb_id) (by decide))
 have BR := Aside0.mk (blk_below BR.out hb_id)
 have R_id := Aside0.mk (Kd.R_lower hr_id HB.out.size)
 have HB := Aside0.mk (HB.out.trans (hb_id.mono HB.out.size))
 obtain ⟨Ao_id, co_id, eo_id⟩ := Kd.R_slice hr_id
 subst eo_id
 clear hr_id hb_id A_id
 go_upto_region 3 with (fail)
 have hG : w_id.heap.size = w_id.heap.size := rfl
 have R_from := Aside0.mk (Mv.R R_from.out (Mv.alloc w_id (.cells #[.slice Ao_date t_date.length co_date, .slice Ao_subject t_subject.length co_subject, .slice Ao_from t_from.length co_from, .slice Ao_sender t_sender.length co_sender, .slice Ao_reply t_reply.length co_reply, .slice Ao_to t_to.length co_to, .slice Ao_cc t_cc.length co_cc, .slice Ao_bcc t_bcc.length co_bcc, .slice Ao_in t_in.length co_in, .slice Ao_id t_id.length co_id] 49)) (by decide))
 have R_date := Aside0.mk (Mv.R R_date.out (Mv.alloc w_id (.cells #[.slice Ao_date t_date.length co_date, .slice Ao_subject t_subject.length co_subject, .slice Ao_from t_from.length co_from, .slice Ao_sender t_sender.length co_sender, .slice Ao_reply t_reply.length co_reply, .slice Ao_to t_to.length co_to, .slice Ao_cc t_cc.length co_cc, .slice Ao_bcc t_bcc.length co_bcc, .slice Ao_in t_in.length co_in, .slice Ao_id t_id.length co_id] 49)) (by decide))
 have R_subject := Aside0.mk (Mv.R R_subject.out (Mv.alloc w_id (.cells #[.slice Ao_date t_date.length co_date, .slice Ao_subject t_subject.length co_subject, .slice Ao_from t_from.length co_from, .slice Ao_sender t_sender.length co_sender, .slice Ao_reply t_reply.length co_reply, .slice Ao_to t_to.length co_to, .slice Ao_cc t_cc.length co_cc, .slice Ao_bcc t_bcc.length co_bcc, .slice Ao_in t_in.length co_in, .slice Ao_id t_id.length co_id] 49)) (by decide))
 have R_sender := Aside0.mk (Mv.R R_sender.out (Mv.alloc w_id (.cells #[.slice Ao_date t_date.length co_date, .slice Ao_subject t_subject.length co_subject, .slice Ao_from t_from.length co_from, .slice Ao_sender t_sender.length co_sender, .slice Ao_reply t_reply.length co_reply, .slice Ao_to t_to.length co_to, .slice Ao_cc t_cc.length co_cc, .slice Ao_bcc t_bcc.length co_bcc, .slice Ao_in t_in.length co_in, .slice Ao_id t_id.length co_id] 49)) (by decide))
 have R_reply := Aside0.mk (Mv.R R_reply.out (Mv.alloc w_id (.cells #[.slice Ao_date t_date.length co_date, .slice Ao_subject t_subject.length co_subject, .slice Ao_from t_from.length co_from, .slice Ao_sender t_sender.length co_sender, .slice Ao_reply t_reply.length co_reply, .slice Ao_to t_to.length co_to, .slice Ao_cc t_cc.length co_cc, .slice Ao_bcc t_bcc.length co_bcc, .slice Ao_in t_in.length co_in, .slice Ao_id t_id.length co_id] 49)) (by decide))
 have R_to := Aside0.mk (Mv.R R_to.out (Mv.alloc w_id (.cells #[.slice Ao_date t_date.length co_date, .slice Ao_subject t_subject.length co_subject, .slice Ao_from t_from.length co_from, .slice Ao_sender t_sender.length co_sender, .slice Ao_reply t_reply.length co_reply, .slice Ao_to t_to.length co_to, .slice Ao_cc t_cc.length co_cc, .slice Ao_bcc t_bcc.length co_bcc, .slice Ao_in t_in.length co_in, .slice Ao_id t_id.length co_id] 49)) (by decide))
 have R_cc := Aside0.mk (Mv.R R_cc.out (Mv.alloc w_id (.cells #[.slice Ao_date t_date.length co_date, .slice Ao_subject t_subject.length co_subject, .slice Ao_from t_from.length co_from, .slice Ao_sender t_sender.length co_sender, .slice Ao_reply t_reply.length co_reply, .slice Ao_to t_to.length co_to, .slice Ao_cc t_cc.length co_cc, .slice Ao_bcc t_bcc.length co_bcc, .slice Ao_in t_in.length co_in, .slice Ao_id t_id.length co_id] 49)) (by decide))
 have R_bcc := Aside0.mk (Mv.R R_bcc.out (Mv.alloc w_id (.cells #[.slice Ao_date t_date.length co_date, .slice Ao_subject t_subject.length co_subject, .slice Ao_from t_from.length co_from, .slice Ao_sender t_sender.length co_sender, .slice Ao_reply t_reply.length co_reply, .slice Ao_to t_to.length co_to, .slice Ao_cc t_cc.length co_cc, .slice Ao_bcc t_bcc.length co_bcc, .slice Ao_in t_in.length co_in, .slice Ao_id t_id.length co_id] 49)) (by decide))
 have R_in := Aside0.mk (Mv.R R_in.out (Mv.alloc w_id (.cells #[.slice Ao_date t_date.length co_date, .slice Ao_subject t_subject.length co_subject, .slice Ao_from t_from.length co_from, .slice Ao_sender t_sender.length co_sender, .slice Ao_reply t_reply.length co_reply, .slice Ao_to t_to.length co_to, .slice Ao_cc t_cc.length co_cc, .slice Ao_bcc t_bcc.length co_bcc, .slice Ao_in t_in.length co_in, .slice Ao_id t_id.length co_id] 49)) (by decide))
 have R_id := Aside0.mk (Mv.R R_id.out (Mv.alloc w_id (.cells #[.slice Ao_date t_date.length co_date, .slice Ao_subject t_subject.length co_subject, .slice Ao_from t_from.length co_from, .slice Ao_sender t_sender.length co_sender, .slice Ao_reply t_reply.length co_reply, .slice Ao_to t_to.length co_to, .slice Ao_cc t_cc.length co_cc, .slice Ao_bcc t_bcc.length co_bcc, .slice Ao_in t_in.length co_in, .slice Ao_id t_id.length co_id] 49)) (by decide))
 have BG := Aside0.mk (show (w_id.alloc (.cells #[.slice Ao_date t_date.length co_date, .slice Ao_subject t_subject.length co_subject, .slice Ao_from t_from.length co_from, .slice Ao_sender t_sender.length co_sender, .slice Ao_reply t_reply.length co_reply, .slice Ao_to t_to.length co_to, .slice Ao_cc t_cc.length co_cc, .slice Ao_bcc t_bcc.length co_bcc, .slice Ao_in t_in.length co_in, .slice Ao_id t_id.length co_id] 49)).heap[w_id.heap.size]? = some (.cells #[.slice Ao_date t_date.length co_date, .slice Ao_subject t_subject.length co_subject, .slice Ao_from t_from.length co_from, .slice Ao_sender t_sender.length co_sender, .slice Ao_reply t_reply.length co_reply, .slice Ao_to t_to.length co_to, .slice Ao_cc t_cc.length co_cc, .slice Ao_bcc t_bcc.length co_bcc, .slice Ao_in t_in.length co_in, .slice Ao_id t_id.length co_id] 49 (0, 0)) from heap_alloc_new _ _)
 have NE := Aside0.mk (Nat.ne_of_lt (blk_lt BR.out))
 have BR := Aside0.mk (blk_alloc BR.out (.cells #[.slice Ao_date t_date.length co_date, .slice Ao_subject t_subject.length co_subject, .slice Ao_from t_from.length co_from, .slice Ao_sender t_sender.length co_sender, .slice Ao_reply t_reply.length co_reply, .slice Ao_to t_to.length co_to, .slice Ao_cc t_cc.length co_cc, .slice Ao_bcc t_bcc.length co_bcc, .slice Ao_in t_in.length co_in, .slice Ao_id t_id.length co_id] 49))
 have GE := Aside0.mk HB.out.size
 have HB := Aside0.mk (HB.out.alloc HB.out.size (.cells #[.slice Ao_date t_date.length co_date, .slice Ao_subject t_subject.length co_subject, .slice Ao_from t_from.length co_from, .slice Ao_sender t_sender.length co_sender, .slice Ao_reply t_reply.length co_reply, .slice Ao_to t_to.length co_to, .slice Ao_cc t_cc.length co_cc, .slice Ao_bcc t_bcc.length co_bcc, .slice Ao_in t_in.length co_in, .slice Ao_id t_id.length co_id] 49))
 obtain ⟨W, hW⟩ : ∃ W, W = (w_id.alloc (.cells #[.slice Ao_date t_date.length co_date, .slice Ao_subject t_subject.length co_subject, .slice Ao_from t_from.length co_from, .slice Ao_sender t_sender.length co_sender, .slice Ao_reply t_reply.length co_reply, .slice Ao_to t_to.length co_to, .slice Ao_cc t_cc.length co_cc, .slice Ao_bcc t_bcc.length co_bcc, .slice Ao_in t_in.length co_in, .slice Ao_id t_id.length co_id] 49)) := ⟨_, rfl⟩
 rw [← hW] at BR BG HB R_from R_date R_subject R_sender R_reply R_to R_cc R_bcc R_in R_id ⊢
 clear hW
 have hc0 := (blk_cell BG.out 0).trans rfl
 have hc1 := (blk_cell BG.out 1).trans rfl
 have hc2 := (blk_cell BG.out 2).trans rfl
 have hc3 := (blk_cell BG.out 3).trans rfl
 have hc4 := (blk_cell BG.out 4).trans rfl
 have hc5 := (blk_cell BG.out 5).trans rfl
 have hc6 := (blk_cell BG.out 6).trans rfl
 have hc7 := (blk_cell BG.out 7).trans rfl
 have hc8 := (blk_cell BG.out 8).trans rfl
 have hc9 := (blk_cell BG.out 9).trans rfl
 have hf := blk_frozen BG.out
 by_cases h3 : (t_sender.length : Int) = 0
 ·
  have hb3 : ((t_sender.length : Int) == 0) = true := beq_iff_eq.2 h3
  have H := HH.out
  rw [if_pos h3] at H
  have HH := Aside0.mk H
  clear H
  by_cases h4 : (t_reply.length : Int) = 0
  ·
   have hb4 : ((t_reply.length : Int) == 0) = true := beq_iff_eq.2 h4
   have H := HH.out
   rw [if_pos h4] at H
   have HH := Aside0.mk H
   clear H
   have H := HH.out
   clear HH
   simp only [Option.some.injEq] at H
   subst H
   have rc0 := (blk_cell BR.out 0).trans (show z10[0]? = some (Value.slice none 0 0) from rfl)
   have rc1 := (blk_cell BR.out 1).trans (show z10[1]? = some (Value.slice none 0 0) from rfl)
   have rc2 := (blk_cell BR.out 2).trans (show z10[2]? = some (Value.slice none 0 0) from rfl)
   have rc3 := (blk_cell BR.out 3).trans (show z10[3]? = some (Value.slice none 0 0) from rfl)
   have rc4 := (blk_cell BR.out 4).trans (show z10[4]? = some (Value.slice none 0 0) from rfl)
   have rc5 := (blk_cell BR.out 5).trans (show z10[5]? = some (Value.slice none 0 0) from rfl)
   have rc6 := (blk_cell BR.out 6).trans (show z10[6]? = some (Value.slice none 0 0) from rfl)
   have rc7 := (blk_cell BR.out 7).trans (show z10[7]? = some (Value.slice none 0 0) from rfl)
   have rc8 := (blk_cell BR.out 8).trans (show z10[8]? = some (Value.slice none 0 0) from rfl)
   have rc9 := (blk_cell BR.out 9).trans (show z10[9]? = some (Value.slice none 0 0) from rfl)
   have rf := blk_frozen BR.out
   have ne := NE.out
   have ne2 := NE.out.symm
   go_wp2_with fail
   clear hc0 hc1 hc2 hc3 hc4 hc5 hc6 hc7 hc8 hc9 hf
   have R_from := Aside0.mk (Mv.R R_from.out (Mv.set BG.out 3 (.slice Ao_from t_from.length co_from)) (by decide))
   have R_date := Aside0.mk (Mv.R R_date.out (Mv.set BG.out 3 (.slice Ao_from t_from.length co_from)) (by decide))
   have R_subject := Aside0.mk (Mv.R R_subject.out (Mv.set BG.out 3 (.slice Ao_from t_from.length co_from)) (by decide))
   have R_sender := Aside0.mk (Mv.R R_sender.out (Mv.set BG.out 3 (.slice Ao_from t_from.length co_from)) (by decide))
   have R_reply := Aside0.mk (Mv.R R_reply.out (Mv.set BG.out 3 (.slice Ao_from t_from.length co_from)) (by decide))
   have R_to := Aside0.mk (Mv.R R_to.out (Mv.set BG.out 3 (.slice Ao_from t_from.length co_from)) (by decide))
   have R_cc := Aside0.mk (Mv.R R_cc.out (Mv.set BG.out 3 (.slice Ao_from t_from.length co_from)) (by decide))
   have R_bcc := Aside0.mk (Mv.R R_bcc.out (Mv.set BG.out 3 (.slice Ao_from t_from.length co_from)) (by decide))
   have R_in := Aside0.mk (Mv.R R_in.out (Mv.set BG.out 3 (.slice Ao_from t_from.length co_from)) (by decide))
   have R_id := Aside0.mk (Mv.R R_id.out (Mv.set BG.out 3 (.slice Ao_from t_from.length co_from)) (by decide))
   have BR := Aside0.mk (blk_far BR.out (p := ⟨w_id.heap.size, 3, none⟩) NE.out (.slice Ao_from t_from.length co_from))
   have BG := Aside0.mk (blk_put (cs' := #[.slice Ao_date t_date.length co_date, .slice Ao_subject t_subject.length co_subject, .slice Ao_from t_from.length co_from, .slice Ao_from t_from.length co_from, .slice Ao_reply t_reply.length co_reply, .slice Ao_to t_to.length co_to, .slice Ao_cc t_cc.length co_cc, .slice Ao_bcc t_bcc.length co_bcc, .slice Ao_in t_in.length co_in, .slice Ao_id t_id.length co_id]) BG.out 3 (.slice Ao_from t_from.length co_from) rfl)
   have HB := Aside0.mk (below_set (g := w_id.heap.size) (j := 3) (v := .slice Ao_from t_from.length co_from) HB.out GE.out)
   have R_from := Aside0.mk (Mv.R R_from.out (Mv.set BG.out 4 (.slice Ao_from t_from.length co_from)) (by decide))
   have R_date := Aside0.mk (Mv.R R_date.out (Mv.set BG.out 4 (.slice Ao_from t_from.length co_from)) (by decide))
   have R_subject := Aside0.mk (Mv.R R_subject.out (Mv.set BG.out 4 (.slice Ao_from t_from.length co_from)) (by decide))
   have R_sender := Aside0.mk (Mv.R R_sender.out (Mv.set BG.out 4 (.slice Ao_from t_from.length co_from)) (by decide))
   have R_reply := Aside0.mk (Mv.R R_reply.out (Mv.set BG.out 4 (.slice Ao_from t_from.length co_from)) (by decide))
   have R_to := Aside0.mk (Mv.R R_to.out (Mv.set BG.out 4 (.slice Ao_from t_from.length co_from)) (by decide))
   have R_cc := Aside0.mk (Mv.R R_cc.out (Mv.set BG.out 4 (.slice Ao_from t_from.length co_from)) (by decide))
   have R_bcc := Aside0.mk (Mv.R R_bcc.out (Mv.set BG.out 4 (.slice Ao_from t_from.length co_from)) (by decide))
   have R_in := Aside0.mk (Mv.R R_in.out (Mv.set BG.out 4 (.slice Ao_from t_from.length co_from)) (by decide))
   have R_id := Aside0.mk (Mv.R R_id.out (Mv.set BG.out 4 (.slice Ao_from t_from.length co_from)) (by decide))
   have BR := Aside0.mk (blk_far BR.out (p := ⟨w_id.heap.size, 4, none⟩) NE.out (.slice Ao_from t_from.length co_from))
   have BG := Aside0.mk (blk_put (cs' := #[.slice Ao_date t_date.length co_date, .slice Ao_subject t_subject.length co_subject, .slice Ao_from t_from.length co_from, .slice Ao_from t_from.length co_from, .slice Ao_from t_from.length co_from, .slice Ao_to t_to.length co_to, .slice Ao_cc t_cc.length co_cc, .slice Ao_bcc t_bcc.length co_bcc, .slice Ao_in t_in.length co_in, .slice Ao_id t_id.length co_id]) BG.out 4 (.slice Ao_from t_from.length co_from) rfl)
   have HB := Aside0.mk (below_set (g := w_id.heap.size) (j := 4) (v := .slice Ao_from t_from.length co_from) HB.out GE.out)
   have BR0 := blk_put (cs' := #[.slice Ao_date t_date.length co_date, .slice none 0 0, .slice none 0 0, .slice none 0 0, .slice none 0 0, .slice none 0 0, .slice none 0 0, .slice none 0 0, .slice none 0 0, .slice none 0 0]) BR.out 0 (.slice Ao_date t_date.length co_date) rfl
   have BR1 := blk_put (cs' := #[.slice Ao_date t_date.length co_date, .slice Ao_subject t_subject.length co_subject, .slice none 0 0, .slice none 0 0, .slice none 0 0, .slice none 0 0, .slice none 0 0, .slice none 0 0, .slice none 0 0, .slice none 0 0]) BR0 1 (.slice Ao_subject t_subject.length co_subject) rfl
   have BR2 := blk_put (cs' := #[.slice Ao_date t_date.length co_date, .slice Ao_subject t_subject.length co_subject, .slice Ao_from t_from.length co_from, .slice none 0 0, .slice none 0 0, .slice none 0 0, .slice none 0 0, .slice none 0 0, .slice none 0 0, .slice none 0 0]) BR1 2 (.slice Ao_from t_from.length co_from) rfl
   have BR3 := blk_put (cs' := #[.slice Ao_date t_date.length co_date, .slice Ao_subject t_subject.length co_subject, .slice Ao_from t_from.length co_from, .slice Ao_from t_from.length co_from, .slice none 0 0, .slice none 0 0, .slice none 0 0, .slice none 0 0, .slice none 0 0, .slice none 0 0]) BR2 3 (.slice Ao_from t_from.length co_from) rfl
   have BR4 := blk_put (cs' := #[.slice Ao_date t_date.length co_date, .slice Ao_subject t_subject.length co_subject, .slice Ao_from t_from.length co_from, .slice Ao_from t_from.length co_from, .slice Ao_from t_from.length co_from, .slice none 0 0, .slice none 0 0, .slice none 0 0, .slice none 0 0, .slice none 0 0]) BR3 4 (.slice Ao_from t_from.length co_from) rfl
   have BR5 := blk_put (cs' := #[.slice Ao_date t_date.length co_date, .slice Ao_subject t_subject.length co_subject, .slice Ao_from t_from.length co_from, .slice Ao_from t_from.length co_from, .slice Ao_from t_from.length co_from, .slice Ao_to t_to.length co_to, .slice none 0 0, .slice none 0 0, .slice none 0 0, .slice none 0 0]) BR4 5 (.slice Ao_to t_to.length co_to) rfl
   have BR6 := blk_put (cs' := #[.slice Ao_date t_date.length co_date, .slice Ao_subject t_subject.length co_subject, .slice Ao_from t_from.length co_from, .slice Ao_from t_from.length co_from, .slice Ao_from t_from.length co_from, .slice Ao_to t_to.length co_to, .slice Ao_cc t_cc.length co_cc, .slice none 0 0, .slice none 0 0, .slice none 0 0]) BR5 6 (.slice Ao_cc t_cc.length co_cc) rfl
   have BR7 := blk_put (cs' := #[.slice Ao_date t_date.length co_date, .slice Ao_subject t_subject.length co_subject, .slice Ao_from t_from.length co_from, .slice Ao_from t_from.length co_from, .slice Ao_from t_from.length co_from, .slice Ao_to t_to.length co_to, .slice Ao_cc t_cc.length co_cc, .slice Ao_bcc t_bcc.length co_bcc, .slice none 0 0, .slice none 0 0]) BR6 7 (.slice Ao_bcc t_bcc.length co_bcc) rfl
   have BR8 := blk_put (cs' := #[.slice Ao_date t_date.length co_date, .slice Ao_subject t_subject.length co_subject, .slice Ao_from t_from.length co_from, .slice Ao_from t_from.length co_from, .slice Ao_from t_from.length co_from, .slice Ao_to t_to.length co_to, .slice Ao_cc t_cc.length co_cc, .slice Ao_bcc t_bcc.length co_bcc, .slice Ao_in t_in.length co_in, .slice none 0 0]) BR7 8 (.slice Ao_in t_in.length co_in) rfl
   have BR9 := blk_put (cs' := #[.slice Ao_date t_date.length co_date, .slice Ao_subject t_subject.length co_subject, .slice Ao_from t_from.length co_from, .slice Ao_from t_from.length co_from, .slice Ao_from t_from.length co_from, .slice Ao_to t_to.length co_to, .slice Ao_cc t_cc.length co_cc, .slice Ao_bcc t_bcc.length co_bcc, .slice Ao_in t_in.length co_in, .slice Ao_id t_id.length co_id]) BR8 9 (.slice Ao_id t_id.length co_id) rfl
   refine bodyPost_ret (results_cell_row rfl _ _ w.heap.size 49 #[.slice Ao_date t_date.length co_date, .slice Ao_subject t_subject.length co_subject, .slice Ao_from t_from.length co_from, .slice Ao_from t_from.length co_from, .slice Ao_from t_from.length co_from, .slice Ao_to t_to.length co_to, .slice Ao_cc t_cc.length co_cc, .slice Ao_bcc t_bcc.length co_bcc, .slice Ao_in t_in.length co_in, .slice Ao_id t_id.length co_id] (0, 0) _ rfl BR9 Tryd.underlying49 rfl (by kernel_rfl)) rfl ?_
   have MV := ((((((((((Mv.set BR.out 0 (.slice Ao_date t_date.length co_date)).trans (Mv.set BR0 1 (.slice Ao_subject t_subject.length co_subject))).trans (Mv.set BR1 2 (.slice Ao_from t_from.length co_from))).trans (Mv.set BR2 3 (.slice Ao_from t_from.length co_from))).trans (Mv.set BR3 4 (.slice Ao_from t_from.length co_from))).trans (Mv.set BR4 5 (.slice Ao_to t_to.length co_to))).trans (Mv.set BR5 6 (.slice Ao_cc t_cc.length co_cc))).trans (Mv.set BR6 7 (.slice Ao_bcc t_bcc.length co_bcc))).trans (Mv.set BR7 8 (.slice Ao_in t_in.length co_in))).trans (Mv.set BR8 9 (.slice Ao_id t_id.length co_id)))
   have F0 := Kd.R_reads' (Mv.R R_date.out MV (by decide))
   have F1 := Kd.R_reads' (Mv.R R_subject.out MV (by decide))
   have F2 := Kd.R_reads' (Mv.R R_from.out MV (by decide))
   have F3 := Kd.R_reads' (Mv.R R_from.out MV (by decide))
   have F4 := Kd.R_reads' (Mv.R R_from.out MV (by decide))
   have F5 := Kd.R_reads' (Mv.R R_to.out MV (by decide))
   have F6 := Kd.R_reads' (Mv.R R_cc.out MV (by decide))
   have F7 := Kd.R_reads' (Mv.R R_bcc.out MV (by decide))
   have F8 := Kd.R_reads' (Mv.R R_in.out MV (by decide))
   have F9 := Kd.R_reads' (Mv.R R_id.out MV (by decide))
   exact ⟨_, rfl, ⟨_, _, _, _, _, _, _, _, _, _, _, _, _, _, _, _, _, _, _, _, rfl, ⟨F0.2.2, F0.2.1⟩, ⟨F1.2.2, F1.2.1⟩, ⟨F2.2.2, F2.2.1⟩, ⟨F3.2.2, F3.2.1⟩, ⟨F4.2.2, F4.2.1⟩, ⟨F5.2.2, F5.2.1⟩, ⟨F6.2.2, F6.2.1⟩, ⟨F7.2.2, F7.2.1⟩, ⟨F8.2.2, F8.2.1⟩, ⟨F9.2.2, F9.2.1⟩⟩, (below_set (g := w.heap.size) (j := 9) (v := .slice Ao_id t_id.length co_id) (below_set (g := w.heap.size) (j := 8) (v := .slice Ao_in t_in.length co_in) (below_set (g := w.heap.size) (j := 7) (v := .slice Ao_bcc t_bcc.length co_bcc) (below_set (g := w.heap.size) (j := 6) (v := .slice Ao_cc t_cc.length co_cc) (below_set (g := w.heap.size) (j := 5) (v := .slice Ao_to t_to.length co_to) (below_set (g := w.heap.size) (j := 4) (v := .slice Ao_from t_from.length co_from) (below_set (g := w.heap.size) (j := 3) (v := .slice Ao_from t_from.length co_from) (below_set (g := w.heap.size) (j := 2) (v := .slice Ao_from t_from.length co_from) (below_set (g := w.heap.size) (j := 1) (v := .slice Ao_subject t_subject.length co_subject) (below_set (g := w.heap.size) (j := 0) (v := .slice Ao_date t_date.length co_date) HB.out (Nat.le_refl _)) (Nat.le_refl _)) (Nat.le_refl _)) (Nat.le_refl _)) (Nat.le_refl _)) (Nat.le_refl _)) (Nat.le_refl _)) (Nat.le_refl _)) (Nat.le_refl _)) (Nat.le_refl _))⟩
  ·
   have hb4 : ((t_reply.length : Int) == 0) = false := beq_eq_false_iff_ne.2 h4
   have H := HH.out
   rw [if_neg h4] at H
   have HH := Aside0.mk H
   clear H
   have H := HH.out
   clear HH
   simp only [Option.some.injEq] at H
   subst H
   have rc0 := (blk_cell BR.out 0).trans (show z10[0]? = some (Value.slice none 0 0) from rfl)
   have rc1 := (blk_cell BR.out 1).trans (show z10[1]? = some (Value.slice none 0 0) from rfl)
   have rc2 := (blk_cell BR.out 2).trans (show z10[2]? = some (Value.slice none 0 0) from rfl)
   have rc3 := (blk_cell BR.out 3).trans (show z10[3]? = some (Value.slice none 0 0) from rfl)
   have rc4 := (blk_cell BR.out 4).trans (show z10[4]? = some (Value.slice none 0 0) from rfl)
   have rc5 := (blk_cell BR.out 5).trans (show z10[5]? = some (Value.slice none 0 0) from rfl)
   have rc6 := (blk_cell BR.out 6).trans (show z10[6]? = some (Value.slice none 0 0) from rfl)
   have rc7 := (blk_cell BR.out 7).trans (show z10[7]? = some (Value.slice none 0 0) from rfl)
   have rc8 := (blk_cell BR.out 8).trans (show z10[8]? = some (Value.slice none 0 0) from rfl)
   have rc9 := (blk_cell BR.out 9).trans (show z10[9]? = some (Value.slice none 0 0) from rfl)
   have rf := blk_frozen BR.out
   have ne := NE.out
   have ne2 := NE.out.symm
   go_wp2_with fail
   clear hc0 hc1 hc2 hc3 hc4 hc5 hc6 hc7 hc8 hc9 hf
   have R_from := Aside0.mk (Mv.R R_from.out (Mv.set BG.out 3 (.slice Ao_from t_from.length co_from)) (by decide))
   have R_date := Aside0.mk (Mv.R R_date.out (Mv.set BG.out 3 (.slice Ao_from t_from.length co_from)) (by decide))
   have R_subject := Aside0.mk (Mv.R R_subject.out (Mv.set BG.out 3 (.slice Ao_from t_from.length co_from)) (by decide))
   have R_sender := Aside0.mk (Mv.R R_sender.out (Mv.set BG.out 3 (.slice Ao_from t_from.length co_from)) (by decide))
   have R_reply := Aside0.mk (Mv.R R_reply.out (Mv.set BG.out 3 (.slice Ao_from t_from.length co_from)) (by decide))
   have R_to := Aside0.mk (Mv.R R_to.out (Mv.set BG.out 3 (.slice Ao_from t_from.length co_from)) (by decide))
   have R_cc := Aside0.mk (Mv.R R_cc.out (Mv.set BG.out 3 (.slice Ao_from t_from.length co_from)) (by decide))
   have R_bcc := Aside0.mk (Mv.R R_bcc.out (Mv.set BG.out 3 (.slice Ao_from t_from.length co_from)) (by decide))
   have R_in := Aside0.mk (Mv.R R_in.out (Mv.set BG.out 3 (.slice Ao_from t_from.length co_from)) (by decide))
   have R_id := Aside0.mk (Mv.R R_id.out (Mv.set BG.out 3 (.slice Ao_from t_from.length co_from)) (by decide))
   have BR := Aside0.mk (blk_far BR.out (p := ⟨w_id.heap.size, 3, none⟩) NE.out (.slice Ao_from t_from.length co_from))
   have BG := Aside0.mk (blk_put (cs' := #[.slice Ao_date t_date.length co_date, .slice Ao_subject t_subject.length co_subject, .slice Ao_from t_from.length co_from, .slice Ao_from t_from.length co_from, .slice Ao_reply t_reply.length co_reply, .slice Ao_to t_to.length co_to, .slice Ao_cc t_cc.length co_cc, .slice Ao_bcc t_bcc.length co_bcc, .slice Ao_in t_in.length co_in, .slice Ao_id t_id.length co_id]) BG.out 3 (.slice Ao_from t_from.length co_from) rfl)
   have HB := Aside0.mk (below_set (g := w_id.heap.size) (j := 3) (v := .slice Ao_from t_from.length co_from) HB.out GE.out)
   have BR0 := blk_put (cs' := #[.slice Ao_date t_date.length co_date, .slice none 0 0, .slice none 0 0, .slice none 0 0, .slice none 0 0, .slice none 0 0, .slice none 0 0, .slice none 0 0, .slice none 0 0, .slice none 0 0]) BR.out 0 (.slice Ao_date t_date.length co_date) rfl
   have BR1 := blk_put (cs' := #[.slice Ao_date t_date.length co_date, .slice Ao_subject t_subject.length co_subject, .slice none 0 0, .slice none 0 0, .slice none 0 0, .slice none 0 0, .slice none 0 0, .slice none 0 0, .slice none 0 0, .slice none 0 0]) BR0 1 (.slice Ao_subject t_subject.length co_subject) rfl
   have BR2 := blk_put (cs' := #[.slice Ao_date t_date.length co_date, .slice Ao_subject t_subject.length co_subject, .slice Ao_from t_from.length co_from, .slice none 0 0, .slice none 0 0, .slice none 0 0, .slice none 0 0, .slice none 0 0, .slice none 0 0, .slice none 0 0]) BR1 2 (.slice Ao_from t_from.length co_from) rfl
   have BR3 := blk_put (cs' := #[.slice Ao_date t_date.length co_date, .slice Ao_subject t_subject.length co_subject, .slice Ao_from t_from.length co_from, .slice Ao_from t_from.length co_from, .slice none 0 0, .slice none 0 0, .slice none 0 0, .slice none 0 0, .slice none 0 0, .slice none 0 0]) BR2 3 (.slice Ao_from t_from.length co_from) rfl
   have BR4 := blk_put (cs' := #[.slice Ao_date t_date.length co_date, .slice Ao_subject t_subject.length co_subject, .slice Ao_from t_from.length co_from, .slice Ao_from t_from.length co_from, .slice Ao_reply t_reply.length co_reply, .slice none 0 0, .slice none 0 0, .slice none 0 0, .slice none 0 0, .slice none 0 0]) BR3 4 (.slice Ao_reply t_reply.length co_reply) rfl
   have BR5 := blk_put (cs' := #[.slice Ao_date t_date.length co_date, .slice Ao_subject t_subject.length co_subject, .slice Ao_from t_from.length co_from, .slice Ao_from t_from.length co_from, .slice Ao_reply t_reply.length co_reply, .slice Ao_to t_to.length co_to, .slice none 0 0, .slice none 0 0, .slice none 0 0, .slice none 0 0]) BR4 5 (.slice Ao_to t_to.length co_to) rfl
   have BR6 := blk_put (cs' := #[.slice Ao_date t_date.length co_date, .slice Ao_subject t_subject.length co_subject, .slice Ao_from t_from.length co_from, .slice Ao_from t_from.length co_from, .slice Ao_reply t_reply.length co_reply, .slice Ao_to t_to.length co_to, .slice Ao_cc t_cc.length co_cc, .slice none 0 0, .slice none 0 0, .slice none 0 0]) BR5 6 (.slice Ao_cc t_cc.length co_cc) rfl
   have BR7 := blk_put (cs' := #[.slice Ao_date t_date.length co_date, .slice Ao_subject t_subject.length co_subject, .slice Ao_from t_from.length co_from, .slice Ao_from t_from.length co_from, .slice Ao_reply t_reply.length co_reply, .slice Ao_to t_to.length co_to, .slice Ao_cc t_cc.length co_cc, .slice Ao_bcc t_bcc.length co_bcc, .slice none 0 0, .slice none 0 0]) BR6 7 (.slice Ao_bcc t_bcc.length co_bcc) rfl
   have BR8 := blk_put (cs' := #[.slice Ao_date t_date.length co_date, .slice Ao_subject t_subject.length co_subject, .slice Ao_from t_from.length co_from, .slice Ao_from t_from.length co_from, .slice Ao_reply t_reply.length co_reply, .slice Ao_to t_to.length co_to, .slice Ao_cc t_cc.length co_cc, .slice Ao_bcc t_bcc.length co_bcc, .slice Ao_in t_in.length co_in, .slice none 0 0]) BR7 8 (.slice Ao_in t_in.length co_in) rfl
   have BR9 := blk_put (cs' := #[.slice Ao_date t_date.length co_date, .slice Ao_subject t_subject.length co_subject, .slice Ao_from t_from.length co_from, .slice Ao_from t_from.length co_from, .slice Ao_reply t_reply.length co_reply, .slice Ao_to t_to.length co_to, .slice Ao_cc t_cc.length co_cc, .slice Ao_bcc t_bcc.length co_bcc, .slice Ao_in t_in.length co_in, .slice Ao_id t_id.length co_id]) BR8 9 (.slice Ao_id t_id.length co_id) rfl
   refine bodyPost_ret (results_cell_row rfl _ _ w.heap.size 49 #[.slice Ao_date t_date.length co_date, .slice Ao_subject t_subject.length co_subject, .slice Ao_from t_from.length co_from, .slice Ao_from t_from.length co_from, .slice Ao_reply t_reply.length co_reply, .slice Ao_to t_to.length co_to, .slice Ao_cc t_cc.length co_cc, .slice Ao_bcc t_bcc.length co_bcc, .slice Ao_in t_in.length co_in, .slice Ao_id t_id.length co_id] (0, 0) _ rfl BR9 Tryd.underlying49 rfl (by kernel_rfl)) rfl ?_
   have MV := ((((((((((Mv.set BR.out 0 (.slice Ao_date t_date.length co_date)).trans (Mv.set BR0 1 (.slice Ao_subject t_subject.length co_subject))).trans (Mv.set BR1 2 (.slice Ao_from t_from.length co_from))).trans (Mv.set BR2 3 (.slice Ao_from t_from.length co_from))).trans (Mv.set BR3 4 (.slice Ao_reply t_reply.length co_reply))).trans (Mv.set BR4 5 (.slice Ao_to t_to.length co_to))).trans (Mv.set BR5 6 (.slice Ao_cc t_cc.length co_cc))).trans (Mv.set BR6 7 (.slice Ao_bcc t_bcc.length co_bcc))).trans (Mv.set BR7 8 (.slice Ao_in t_in.length co_in))).trans (Mv.set BR8 9 (.slice Ao_id t_id.length co_id)))
   have F0 := Kd.R_reads' (Mv.R R_date.out MV (by decide))
   have F1 := Kd.R_reads' (Mv.R R_subject.out MV (by decide))
   have F2 := Kd.R_reads' (Mv.R R_from.out MV (by decide))
   have F3 := Kd.R_reads' (Mv.R R_from.out MV (by decide))
   have F4 := Kd.R_reads' (Mv.R R_reply.out MV (by decide))
   have F5 := Kd.R_reads' (Mv.R R_to.out MV (by decide))
   have F6 := Kd.R_reads' (Mv.R R_cc.out MV (by decide))
   have F7 := Kd.R_reads' (Mv.R R_bcc.out MV (by decide))
   have F8 := Kd.R_reads' (Mv.R R_in.out MV (by decide))
   have F9 := Kd.R_reads' (Mv.R R_id.out MV (by decide))
   exact ⟨_, rfl, ⟨_, _, _, _, _, _, _, _, _, _, _, _, _, _, _, _, _, _, _, _, rfl, ⟨F0.2.2, F0.2.1⟩, ⟨F1.2.2, F1.2.1⟩, ⟨F2.2.2, F2.2.1⟩, ⟨F3.2.2, F3.2.1⟩, ⟨F4.2.2, F4.2.1⟩, ⟨F5.2.2, F5.2.1⟩, ⟨F6.2.2, F6.2.1⟩, ⟨F7.2.2, F7.2.1⟩, ⟨F8.2.2, F8.2.1⟩, ⟨F9.2.2, F9.2.1⟩⟩, (below_set (g := w.heap.size) (j := 9) (v := .slice Ao_id t_id.length co_id) (below_set (g := w.heap.size) (j := 8) (v := .slice Ao_in t_in.length co_in) (below_set (g := w.heap.size) (j := 7) (v := .slice Ao_bcc t_bcc.length co_bcc) (below_set (g := w.heap.size) (j := 6) (v := .slice Ao_cc t_cc.length co_cc) (below_set (g := w.heap.size) (j := 5) (v := .slice Ao_to t_to.length co_to) (below_set (g := w.heap.size) (j := 4) (v := .slice Ao_reply t_reply.length co_reply) (below_set (g := w.heap.size) (j := 3) (v := .slice Ao_from t_from.length co_from) (below_set (g := w.heap.size) (j := 2) (v := .slice Ao_from t_from.length co_from) (below_set (g := w.heap.size) (j := 1) (v := .slice Ao_subject t_subject.length co_subject) (below_set (g := w.heap.size) (j := 0) (v := .slice Ao_date t_date.length co_date) HB.out (Nat.le_refl _)) (Nat.le_refl _)) (Nat.le_refl _)) (Nat.le_refl _)) (Nat.le_refl _)) (Nat.le_refl _)) (Nat.le_refl _)) (Nat.le_refl _)) (Nat.le_refl _)) (Nat.le_refl _))⟩
 ·
  have hb3 : ((t_sender.length : Int) == 0) = false := beq_eq_false_iff_ne.2 h3
  have H := HH.out
  rw [if_neg h3] at H
  have HH := Aside0.mk H
  clear H
  by_cases h4 : (t_reply.length : Int) = 0
  ·
   have hb4 : ((t_reply.length : Int) == 0) = true := beq_iff_eq.2 h4
   have H := HH.out
   rw [if_pos h4] at H
   have HH := Aside0.mk H
   clear H
   have H := HH.out
   clear HH
   simp only [Option.some.injEq] at H
   subst H
   have rc0 := (blk_cell BR.out 0).trans (show z10[0]? = some (Value.slice none 0 0) from rfl)
   have rc1 := (blk_cell BR.out 1).trans (show z10[1]? = some (Value.slice none 0 0) from rfl)
   have rc2 := (blk_cell BR.out 2).trans (show z10[2]? = some (Value.slice none 0 0) from rfl)
   have rc3 := (blk_cell BR.out 3).trans (show z10[3]? = some (Value.slice none 0 0) from rfl)
   have rc4 := (blk_cell BR.out 4).trans (show z10[4]? = some (Value.slice none 0 0) from rfl)
   have rc5 := (blk_cell BR.out 5).trans (show z10[5]? = some (Value.slice none 0 0) from rfl)
   have rc6 := (blk_cell BR.out 6).trans (show z10[6]? = some (Value.slice none 0 0) from rfl)
   have rc7 := (blk_cell BR.out 7).trans (show z10[7]? = some (Value.slice none 0 0) from rfl)
   have rc8 := (blk_cell BR.out 8).trans (show z10[8]? = some (Value.slice none 0 0) from rfl)
   have rc9 := (blk_cell BR.out 9).trans (show z10[9]? = some (Value.slice none 0 0) from rfl)
   have rf := blk_frozen BR.out
   have ne := NE.out
   have ne2 := NE.out.symm
   go_wp2_with fail
   clear hc0 hc1 hc2 hc3 hc4 hc5 hc6 hc7 hc8 hc9 hf
   have R_from := Aside0.mk (Mv.R R_from.out (Mv.set BG.out 4 (.slice Ao_from t_from.length co_from)) (by decide))
   have R_date := Aside0.mk (Mv.R R_date.out (Mv.set BG.out 4 (.slice Ao_from t_from.length co_from)) (by decide))
   have R_subject := Aside0.mk (Mv.R R_subject.out (Mv.set BG.out 4 (.slice Ao_from t_from.length co_from)) (by decide))
   have R_sender := Aside0.mk (Mv.R R_sender.out (Mv.set BG.out 4 (.slice Ao_from t_from.length co_from)) (by decide))
   have R_reply := Aside0.mk (Mv.R R_reply.out (Mv.set BG.out 4 (.slice Ao_from t_from.length co_from)) (by decide))
   have R_to := Aside0.mk (Mv.R R_to.out (Mv.set BG.out 4 (.slice Ao_from t_from.length co_from)) (by decide))
   have R_cc := Aside0.mk (Mv.R R_cc.out (Mv.set BG.out 4 (.slice Ao_from t_from.length co_from)) (by decide))
   have R_bcc := Aside0.mk (Mv.R R_bcc.out (Mv.set BG.out 4 (.slice Ao_from t_from.length co_from)) (by decide))
   have R_in := Aside0.mk (Mv.R R_in.out (Mv.set BG.out 4 (.slice Ao_from t_from.length co_from)) (by decide))
   have R_id := Aside0.mk (Mv.R R_id.out (Mv.set BG.out 4 (.slice Ao_from t_from.length co_from)) (by decide))
   have BR := Aside0.mk (blk_far BR.out (p := ⟨w_id.heap.size, 4, none⟩) NE.out (.slice Ao_from t_from.length co_from))
   have BG := Aside0.mk (blk_put (cs' := #[.slice Ao_date t_date.length co_date, .slice Ao_subject t_subject.length co_subject, .slice Ao_from t_from.length co_from, .slice Ao_sender t_sender.length co_sender, .slice Ao_from t_from.length co_from, .slice Ao_to t_to.length co_to, .slice Ao_cc t_cc.length co_cc, .slice Ao_bcc t_bcc.length co_bcc, .slice Ao_in t_in.length co_in, .slice Ao_id t_id.length co_id]) BG.out 4 (.slice Ao_from t_from.length co_from) rfl)
   have HB := Aside0.mk (below_set (g := w_id.heap.size) (j := 4) (v := .slice Ao_from t_from.length co_from) HB.out GE.out)
   have BR0 := blk_put (cs' := #[.slice Ao_date t_date.length co_date, .slice none 0 0, .slice none 0 0, .slice none 0 0, .slice none 0 0, .slice none 0 0, .slice none 0 0, .slice none 0 0, .slice none 0 0, .slice none 0 0]) BR.out 0 (.slice Ao_date t_date.length co_date) rfl
   have BR1 := blk_put (cs' := #[.slice Ao_date t_date.length co_date, .slice Ao_subject t_subject.length co_subject, .slice none 0 0, .slice none 0 0, .slice none 0 0, .slice none 0 0, .slice none 0 0, .slice none 0 0, .slice none 0 0, .slice none 0 0]) BR0 1 (.slice Ao_subject t_subject.length co_subject) rfl
   have BR2 := blk_put (cs' := #[.slice Ao_date t_date.length co_date, .slice Ao_subject t_subject.length co_subject, .slice Ao_from t_from.length co_from, .slice none 0 0, .slice none 0 0, .slice none 0 0, .slice none 0 0, .slice none 0 0, .slice none 0 0, .slice none 0 0]) BR1 2 (.slice Ao_from t_from.length co_from) rfl
   have BR3 := blk_put (cs' := #[.slice Ao_date t_date.length co_date, .slice Ao_subject t_subject.length co_subject, .slice Ao_from t_from.length co_from, .slice Ao_sender t_sender.length co_sender, .slice none 0 0, .slice none 0 0, .slice none 0 0, .slice none 0 0, .slice none 0 0, .slice none 0 0]) BR2 3 (.slice Ao_sender t_sender.length co_sender) rfl
   have BR4 := blk_put (cs' := #[.slice Ao_date t_date.length co_date, .slice Ao_subject t_subject.length co_subject, .slice Ao_from t_from.length co_from, .slice Ao_sender t_sender.length co_sender, .slice Ao_from t_from.length co_from, .slice none 0 0, .slice none 0 0, .slice none 0 0, .slice none 0 0, .slice none 0 0]) BR3 4 (.slice Ao_from t_from.length co_from) rfl
   have BR5 := blk_put (cs' := #[.slice Ao_date t_date.length co_date, .slice Ao_subject t_subject.length co_subject, .slice Ao_from t_from.length co_from, .slice Ao_sender t_sender.length co_sender, .slice Ao_from t_from.length co_from, .slice Ao_to t_to.length co_to, .slice none 0 0, .slice none 0 0, .slice none 0 0, .slice none 0 0]) BR4 5 (.slice Ao_to t_to.length co_to) rfl
   have BR6 := blk_put (cs' := #[.slice Ao_date t_date.length co_date, .slice Ao_subject t_subject.length co_subject, .slice Ao_from t_from.length co_from, .slice Ao_sender t_sender.length co_sender, .slice Ao_from t_from.length co_from, .slice Ao_to t_to.length co_to, .slice Ao_cc t_cc.length co_cc, .slice none 0 0, .slice none 0 0, .slice none 0 0]) BR5 6 (.slice Ao_cc t_cc.length co_cc) rfl
   have BR7 := blk_put (cs' := #[.slice Ao_date t_date.length co_date, .slice Ao_subject t_subject.length co_subject, .slice Ao_from t_from.length co_from, .slice Ao_sender t_sender.length co_sender, .slice Ao_from t_from.length co_from, .slice Ao_to t_to.length co_to, .slice Ao_cc t_cc.length co_cc, .slice Ao_bcc t_bcc.length co_bcc, .slice none 0 0, .slice none 0 0]) BR6 7 (.slice Ao_bcc t_bcc.length co_bcc) rfl
   have BR8 := blk_put (cs' := #[.slice Ao_date t_date.length co_date, .slice Ao_subject t_subject.length co_subject, .slice Ao_from t_from.length co_from, .slice Ao_sender t_sender.length co_sender, .slice Ao_from t_from.length co_from, .slice Ao_to t_to.length co_to, .slice Ao_cc t_cc.length co_cc, .slice Ao_bcc t_bcc.length co_bcc, .slice Ao_in t_in.length co_in, .slice none 0 0]) BR7 8 (.slice Ao_in t_in.length co_in) rfl
   have BR9 := blk_put (cs' := #[.slice Ao_date t_date.length co_date, .slice Ao_subject t_subject.length co_subject, .slice Ao_from t_from.length co_from, .slice Ao_sender t_sender.length co_sender, .slice Ao_from t_from.length co_from, .slice Ao_to t_to.length co_to, .slice Ao_cc t_cc.length co_cc, .slice Ao_bcc t_bcc.length co_bcc, .slice Ao_in t_in.length co_in, .slice Ao_id t_id.length co_id]) BR8 9 (.slice Ao_id t_id.length co_id) rfl
   refine bodyPost_ret (results_cell_row rfl _ _ w.heap.size 49 #[.slice Ao_date t_date.length co_date, .slice Ao_subject t_subject.length co_subject, .slice Ao_from t_from.length co_from, .slice Ao_sender t_sender.length co_sender, .slice Ao_from t_from.length co_from, .slice Ao_to t_to.length co_to, .slice Ao_cc t_cc.length co_cc, .slice Ao_bcc t_bcc.length co_bcc, .slice Ao_in t_in.length co_in, .slice Ao_id t_id.length co_id] (0, 0) _ rfl BR9 Tryd.underlying49 rfl (by kernel_rfl)) rfl ?_
   have MV := ((((((((((Mv.set BR.out 0 (.slice Ao_date t_date.length co_date)).trans (Mv.set BR0 1 (.slice Ao_subject t_subject.length co_subject))).trans (Mv.set BR1 2 (.slice Ao_from t_from.length co_from))).trans (Mv.set BR2 3 (.slice Ao_sender t_sender.length co_sender))).trans (Mv.set BR3 4 (.slice Ao_from t_from.length co_from))).trans (Mv.set BR4 5 (.slice Ao_to t_to.length co_to))).trans (Mv.set BR5 6 (.slice Ao_cc t_cc.length co_cc))).trans (Mv.set BR6 7 (.slice Ao_bcc t_bcc.length co_bcc))).trans (Mv.set BR7 8 (.slice Ao_in t_in.length co_in))).trans (Mv.set BR8 9 (.slice Ao_id t_id.length co_id)))
   have F0 := Kd.R_reads' (Mv.R R_date.out MV (by decide))
   have F1 := Kd.R_reads' (Mv.R R_subject.out MV (by decide))
   have F2 := Kd.R_reads' (Mv.R R_from.out MV (by decide))
   have F3 := Kd.R_reads' (Mv.R R_sender.out MV (by decide))
   have F4 := Kd.R_reads' (Mv.R R_from.out MV (by decide))
   have F5 := Kd.R_reads' (Mv.R R_to.out MV (by decide))
   have F6 := Kd.R_reads' (Mv.R R_cc.out MV (by decide))
   have F7 := Kd.R_reads' (Mv.R R_bcc.out MV (by decide))
   have F8 := Kd.R_reads' (Mv.R R_in.out MV (by decide))
   have F9 := Kd.R_reads' (Mv.R R_id.out MV (by decide))
   exact ⟨_, rfl, ⟨_, _, _, _, _, _, _, _, _, _, _, _, _, _, _, _, _, _, _, _, rfl, ⟨F0.2.2, F0.2.1⟩, ⟨F1.2.2, F1.2.1⟩, ⟨F2.2.2, F2.2.1⟩, ⟨F3.2.2, F3.2.1⟩, ⟨F4.2.2, F4.2.1⟩, ⟨F5.2.2, F5.2.1⟩, ⟨F6.2.2, F6.2.1⟩, ⟨F7.2.2, F7.2.1⟩, ⟨F8.2.2, F8.2.1⟩, ⟨F9.2.2, F9.2.1⟩⟩, (below_set (g := w.heap.size) (j := 9) (v := .slice Ao_id t_id.length co_id) (below_set (g := w.heap.size) (j := 8) (v := .slice Ao_in t_in.length co_in) (below_set (g := w.heap.size) (j := 7) (v := .slice Ao_bcc t_bcc.length co_bcc) (below_set (g := w.heap.size) (j := 6) (v := .slice Ao_cc t_cc.length co_cc) (below_set (g := w.heap.size) (j := 5) (v := .slice Ao_to t_to.length co_to) (below_set (g := w.heap.size) (j := 4) (v := .slice Ao_from t_from.length co_from) (below_set (g := w.heap.size) (j := 3) (v := .slice Ao_sender t_sender.length co_sender) (below_set (g := w.heap.size) (j := 2) (v := .slice Ao_from t_from.length co_from) (below_set (g := w.heap.size) (j := 1) (v := .slice Ao_subject t_subject.length co_subject) (below_set (g := w.heap.size) (j := 0) (v := .slice Ao_date t_date.length co_date) HB.out (Nat.le_refl _)) (Nat.le_refl _)) (Nat.le_refl _)) (Nat.le_refl _)) (Nat.le_refl _)) (Nat.le_refl _)) (Nat.le_refl _)) (Nat.le_refl _)) (Nat.le_refl _)) (Nat.le_refl _))⟩
  ·
   have hb4 : ((t_reply.length : Int) == 0) = false := beq_eq_false_iff_ne.2 h4
   have H := HH.out
   rw [if_neg h4] at H
   have HH := Aside0.mk H
   clear H
   have H := HH.out
   clear HH
   simp only [Option.some.injEq] at H
   subst H
   have rc0 := (blk_cell BR.out 0).trans (show z10[0]? = some (Value.slice none 0 0) from rfl)
   have rc1 := (blk_cell BR.out 1).trans (show z10[1]? = some (Value.slice none 0 0) from rfl)
   have rc2 := (blk_cell BR.out 2).trans (show z10[2]? = some (Value.slice none 0 0) from rfl)
   have rc3 := (blk_cell BR.out 3).trans (show z10[3]? = some (Value.slice none 0 0) from rfl)
   have rc4 := (blk_cell BR.out 4).trans (show z10[4]? = some (Value.slice none 0 0) from rfl)
   have rc5 := (blk_cell BR.out 5).trans (show z10[5]? = some (Value.slice none 0 0) from rfl)
   have rc6 := (blk_cell BR.out 6).trans (show z10[6]? = some (Value.slice none 0 0) from rfl)
   have rc7 := (blk_cell BR.out 7).trans (show z10[7]? = some (Value.slice none 0 0) from rfl)
   have rc8 := (blk_cell BR.out 8).trans (show z10[8]? = some (Value.slice none 0 0) from rfl)
   have rc9 := (blk_cell BR.out 9).trans (show z10[9]? = some (Value.slice none 0 0) from rfl)
   have rf := blk_frozen BR.out
   have ne := NE.out
   have ne2 := NE.out.symm
   go_wp2_with fail
   clear hc0 hc1 hc2 hc3 hc4 hc5 hc6 hc7 hc8 hc9 hf
   have BR0 := blk_put (cs' := #[.slice Ao_date t_date.length co_date, .slice none 0 0, .slice none 0 0, .slice none 0 0, .slice none 0 0, .slice none 0 0, .slice none 0 0, .slice none 0 0, .slice none 0 0, .slice none 0 0]) BR.out 0 (.slice Ao_date t_date.length co_date) rfl
   have BR1 := blk_put (cs' := #[.slice Ao_date t_date.length co_date, .slice Ao_subject t_subject.length co_subject, .slice none 0 0, .slice none 0 0, .slice none 0 0, .slice none 0 0, .slice none 0 0, .slice none 0 0, .slice none 0 0, .slice none 0 0]) BR0 1 (.slice Ao_subject t_subject.length co_subject) rfl
   have BR2 := blk_put (cs' := #[.slice Ao_date t_date.length co_date, .slice Ao_subject t_subject.length co_subject, .slice Ao_from t_from.length co_from, .slice none 0 0, .slice none 0 0, .slice none 0 0, .slice none 0 0, .slice none 0 0, .slice none 0 0, .slice none 0 0]) BR1 2 (.slice Ao_from t_from.length co_from) rfl
   have BR3 := blk_put (cs' := #[.slice Ao_date t_date.length co_date, .slice Ao_subject t_subject.length co_subject, .slice Ao_from t_from.length co_from, .slice Ao_sender t_sender.length co_sender, .slice none 0 0, .slice none 0 0, .slice none 0 0, .slice none 0 0, .slice none 0 0, .slice none 0 0]) BR2 3 (.slice Ao_sender t_sender.length co_sender) rfl
   have BR4 := blk_put (cs' := #[.slice Ao_date t_date.length co_date, .slice Ao_subject t_subject.length co_subject, .slice Ao_from t_from.length co_from, .slice Ao_sender t_sender.length co_sender, .slice Ao_reply t_reply.length co_reply, .slice none 0 0, .slice none 0 0, .slice none 0 0, .slice none 0 0, .slice none 0 0]) BR3 4 (.slice Ao_reply t_reply.length co_reply) rfl
   have BR5 := blk_put (cs' := #[.slice Ao_date t_date.length co_date, .slice Ao_subject t_subject.length co_subject, .slice Ao_from t_from.length co_from, .slice Ao_sender t_sender.length co_sender, .slice Ao_reply t_reply.length co_reply, .slice Ao_to t_to.length co_to, .slice none 0 0, .slice none 0 0, .slice none 0 0, .slice none 0 0]) BR4 5 (.slice Ao_to t_to.length co_to) rfl
   have BR6 := blk_put (cs' := #[.slice Ao_date t_date.length co_date, .slice Ao_subject t_subject.length co_subject, .slice Ao_from t_from.length co_from, .slice Ao_sender t_sender.length co_sender, .slice Ao_reply t_reply.length co_reply, .slice Ao_to t_to.length co_to, .slice Ao_cc t_cc.length co_cc, .slice none 0 0, .slice none 0 0, .slice none 0 0]) BR5 6 (.slice Ao_cc t_cc.length co_cc) rfl
   have BR7 := blk_put (cs' := #[.slice Ao_date t_date.length co_date, .slice Ao_subject t_subject.length co_subject, .slice Ao_from t_from.length co_from, .slice Ao_sender t_sender.length co_sender, .slice Ao_reply t_reply.length co_reply, .slice Ao_to t_to.length co_to, .slice Ao_cc t_cc.length co_cc, .slice Ao_bcc t_bcc.length co_bcc, .slice none 0 0, .slice none 0 0]) BR6 7 (.slice Ao_bcc t_bcc.length co_bcc) rfl
   have BR8 := blk_put (cs' := #[.slice Ao_date t_date.length co_date, .slice Ao_subject t_subject.length co_subject, .slice Ao_from t_from.length co_from, .slice Ao_sender t_sender.length co_sender, .slice Ao_reply t_reply.length co_reply, .slice Ao_to t_to.length co_to, .slice Ao_cc t_cc.length co_cc, .slice Ao_bcc t_bcc.length co_bcc, .slice Ao_in t_in.length co_in, .slice none 0 0]) BR7 8 (.slice Ao_in t_in.length co_in) rfl
   have BR9 := blk_put (cs' := #[.slice Ao_date t_date.length co_date, .slice Ao_subject t_subject.length co_subject, .slice Ao_from t_from.length co_from, .slice Ao_sender t_sender.length co_sender, .slice Ao_reply t_reply.length co_reply, .slice Ao_to t_to.length co_to, .slice Ao_cc t_cc.length co_cc, .slice Ao_bcc t_bcc.length co_bcc, .slice Ao_in t_in.length co_in, .slice Ao_id t_id.length co_id]) BR8 9 (.slice Ao_id t_id.length co_id) rfl
   refine bodyPost_ret (results_cell_row rfl _ _ w.heap.size 49 #[.slice Ao_date t_date.length co_date, .slice Ao_subject t_subject.length co_subject, .slice Ao_from t_from.length co_from, .slice Ao_sender t_sender.length co_sender, .slice Ao_reply t_reply.length co_reply, .slice Ao_to t_to.length co_to, .slice Ao_cc t_cc.length co_cc, .slice Ao_bcc t_bcc.length co_bcc, .slice Ao_in t_in.length co_in, .slice Ao_id t_id.length co_id] (0, 0) _ rfl BR9 Tryd.underlying49 rfl (by kernel_rfl)) rfl ?_
   have MV := ((((((((((Mv.set BR.out 0 (.slice Ao_date t_date.length co_date)).trans (Mv.set BR0 1 (.slice Ao_subject t_subject.length co_subject))).trans (Mv.set BR1 2 (.slice Ao_from t_from.length co_from))).trans (Mv.set BR2 3 (.slice Ao_sender t_sender.length co_sender))).trans (Mv.set BR3 4 (.slice Ao_reply t_reply.length co_reply))).trans (Mv.set BR4 5 (.slice Ao_to t_to.length co_to))).trans (Mv.set BR5 6 (.slice Ao_cc t_cc.length co_cc))).trans (Mv.set BR6 7 (.slice Ao_bcc t_bcc.length co_bcc))).trans (Mv.set BR7 8 (.slice Ao_in t_in.length co_in))).trans (Mv.set BR8 9 (.slice Ao_id t_id.length co_id)))
   have F0 := Kd.R_reads' (Mv.R R_date.out MV (by decide))
   have F1 := Kd.R_reads' (Mv.R R_subject.out MV (by decide))
   have F2 := Kd.R_reads' (Mv.R R_from.out MV (by decide))
   have F3 := Kd.R_reads' (Mv.R R_sender.out MV (by decide))
   have F4 := Kd.R_reads' (Mv.R R_reply.out MV (by decide))
   have F5 := Kd.R_reads' (Mv.R R_to.out MV (by decide))
   have F6 := Kd.R_reads' (Mv.R R_cc.out MV (by decide))
   have F7 := Kd.R_reads' (Mv.R R_bcc.out MV (by decide))
   have F8 := Kd.R_reads' (Mv.R R_in.out MV (by decide))
   have F9 := Kd.R_reads' (Mv.R R_id.out MV (by decide))
   exact ⟨_, rfl, ⟨_, _, _, _, _, _, _, _, _, _, _, _, _, _, _, _, _, _, _, _, rfl, ⟨F0.2.2, F0.2.1⟩, ⟨F1.2.2, F1.2.1⟩, ⟨F2.2.2, F2.2.1⟩, ⟨F3.2.2, F3.2.1⟩, ⟨F4.2.2, F4.2.1⟩, ⟨F5.2.2, F5.2.1⟩, ⟨F6.2.2, F6.2.1⟩, ⟨F7.2.2, F7.2.1⟩, ⟨F8.2.2, F8.2.1⟩, ⟨F9.2.2, F9.2.1⟩⟩, (below_set (g := w.heap.size) (j := 9) (v := .slice Ao_id t_id.length co_id) (below_set (g := w.heap.size) (j := 8) (v := .slice Ao_in t_in.length co_in) (below_set (g := w.heap.size) (j := 7) (v := .slice Ao_bcc t_bcc.length co_bcc) (below_set (g := w.heap.size) (j := 6) (v := .slice Ao_cc t_cc.length co_cc) (below_set (g := w.heap.size) (j := 5) (v := .slice Ao_to t_to.length co_to) (below_set (g := w.heap.size) (j := 4) (v := .slice Ao_reply t_reply.length co_reply) (below_set (g := w.heap.size) (j := 3) (v := .slice Ao_sender t_sender.length co_sender) (below_set (g := w.heap.size) (j := 2) (v := .slice Ao_from t_from.length co_from) (below_set (g := w.heap.size) (j := 1) (v := .slice Ao_subject t_subject.length co_subject) (below_set (g := w.heap.size) (j := 0) (v := .slice Ao_date t_date.length co_date) HB.out (Nat.le_refl _)) (Nat.le_refl _)) (Nat.le_refl _)) (Nat.le_refl _)) (Nat.le_refl _)) (Nat.le_refl _)) (Nat.le_refl _)) (Nat.le_refl _)) (Nat.le_refl _)) (Nat.le_refl _))⟩
set_option maxHeartbeats 8000000 in
set_option maxRecDepth 100000 in
theorem haversacklaw10_HeaderEnvelopes.callsE (k : Nat) (a0 : ByteArray) (r : Bool) (w : World) (h : haversacklaw10_HeaderEnvelopes.f k a0 = some r) :
  Calls Tryd.prog 9 #[.string a0] w fun e w' => e = .returned (.bool r) ∧ Below w.heap.size w w' := by
  unfold haversacklaw10_HeaderEnvelopes.f at h
  by_cases c1 : (a0.size : Int) > 4000
  · rw [if_pos c1] at h
    obtain ⟨t, ht, h⟩ := Option.bind_eq_some_iff.1 h
    injection h with h
    subst h
    have hA := Aside0.mk ht
    have c1b : decide ((4000 : Int) < (a0.size : Int)) = true := decide_eq_true c1
    clear ht
    go_enter Tryd.func9, Tryd.ntmps9
    go_wp2_with fail
    refine (haversacklaw10_alive.calls k t _ hA.out).mono ?_
    rintro e w1 ⟨rfl, hb⟩
    have HB := Aside0.mk hb
    clear hb
    go_wp2_with fail
    go_ret
    exact ⟨rfl, HB.out⟩
  · rw [if_neg c1] at h
    obtain ⟨t1, h1, h⟩ := Option.bind_eq_some_iff.1 h
    obtain ⟨t2, h2, h⟩ := Option.bind_eq_some_iff.1 h
    obtain ⟨t3, h3, h⟩ := Option.bind_eq_some_iff.1 h
    obtain ⟨t4, h4, h⟩ := Option.bind_eq_some_iff.1 h
    obtain ⟨t5, h5, h⟩ := Option.bind_eq_some_iff.1 h
    have H1 := Aside0.mk h1
    have H2 := Aside0.mk h2
    have H3 := Aside0.mk h3
    have H4 := Aside0.mk h4
    have H5 := Aside0.mk h5
    have c1b : decide ((4000 : Int) < (a0.size : Int)) = false := decide_eq_false c1
    clear h1 h2 h3 h4 h5
    have HH := Aside0.mk h
    clear h
    go_enter Tryd.func9, Tryd.ntmps9
    go_wp2_with fail
    refine (header_Fields.calls k a0 t1 _ H1.out).mono ?_
    rintro e w1 ⟨v1, rfl, hr1, hb1⟩
    obtain ⟨Ao1, co1, eo1⟩ := Kd.R_slice hr1
    subst eo1
    have HB := Aside0.mk hb1
    have R1 := Aside0.mk (Kd.R_reads' hr1)
    clear hb1 hr1
    go_wp2_with fail
    refine (header_Envelope.callsE k _ _ t1 t2 _ R1.out.2.2 R1.out.2.1 H2.out).mono ?_
    rintro e w2 ⟨v2, rfl, he2, hb2⟩
    have E2 := Aside0.mk he2
    have HB := Aside0.mk (HB.out.trans (hb2.mono HB.out.size))
    clear he2 hb2 R1
    go_wp2_with fail
    refine (haversackref10_Fields.calls k a0 t3 _ H3.out).mono ?_
    rintro e w3 ⟨v3, rfl, hr3, hb3⟩
    obtain ⟨Ao3, co3, eo3⟩ := Kd.R_slice hr3
    subst eo3
    have E2 := Aside0.mk (E2.out.below hb3)
    have HB := Aside0.mk (HB.out.trans (hb3.mono HB.out.size))
    have R3 := Aside0.mk (Kd.R_reads' hr3)
    clear hb3 hr3
    go_wp2_with fail
    refine (haversackref10_Envelope.callsE k _ _ t3 t4 _ R3.out.2.2 R3.out.2.1 H4.out).mono ?_
    rintro e w4 ⟨v4, rfl, he4, hb4⟩
    have E2 := Aside0.mk (E2.out.below hb4)
    have HB := Aside0.mk (HB.out.trans (hb4.mono HB.out.size))
    obtain ⟨B0, d0, B1, d1, B2, d2, B3, d3, B4, d4, B5, d5, B6, d6, B7, d7, B8, d8, B9, d9, rfl, e4⟩ := he4
    have E4 := Aside0.mk e4
    obtain ⟨A0, c0, A1, c1, A2, c2, A3, c3, A4, c4, A5, c5, A6, c6, A7, c7, A8, c8, A9, c9, rfl, e2⟩ := E2.out
    have E3 := Aside0.mk e2
    clear e4 hb4 e2 E2 R3
    go_wp2_with fail
    refine (haversackref10_Same.calls k _ _ _ _ _ _ _ _ _ _ _ _ _ _ _ _ _ _ _ _ _ _ _ _ _ _ _ _ _ _ _ _ _ _ _ _ _ _ _ _ _ _ _ _ _ _ _ _ _ _ _ _ _ _ _ _ _ _ _ _ t5 _ E3.out.1.1 E3.out.1.2 E3.out.2.1.1 E3.out.2.1.2 E3.out.2.2.1.1 E3.out.2.2.1.2 E3.out.2.2.2.1.1 E3.out.2.2.2.1.2 E3.out.2.2.2.2.1.1 E3.out.2.2.2.2.1.2 E3.out.2.2.2.2.2.1.1 E3.out.2.2.2.2.2.1.2 E3.out.2.2.2.2.2.2.1.1 E3.out.2.2.2.2.2.2.1.2 E3.out.2.2.2.2.2.2.2.1.1 E3.out.2.2.2.2.2.2.2.1.2 E3.out.2.2.2.2.2.2.2.2.1.1 E3.out.2.2.2.2.2.2.2.2.1.2 E3.out.2.2.2.2.2.2.2.2.2.1 E3.out.2.2.2.2.2.2.2.2.2.2 E4.out.1.1 E4.out.1.2 E4.out.2.1.1 E4.out.2.1.2 E4.out.2.2.1.1 E4.out.2.2.1.2 E4.out.2.2.2.1.1 E4.out.2.2.2.1.2 E4.out.2.2.2.2.1.1 E4.out.2.2.2.2.1.2 E4.out.2.2.2.2.2.1.1 E4.out.2.2.2.2.2.1.2 E4.out.2.2.2.2.2.2.1.1 E4.out.2.2.2.2.2.2.1.2 E4.out.2.2.2.2.2.2.2.1.1 E4.out.2.2.2.2.2.2.2.1.2 E4.out.2.2.2.2.2.2.2.2.1.1 E4.out.2.2.2.2.2.2.2.2.1.2 E4.out.2.2.2.2.2.2.2.2.2.1 E4.out.2.2.2.2.2.2.2.2.2.2 H5.out).mono ?_
    rintro e w5 ⟨rfl, hb5⟩
    have HB := Aside0.mk (HB.out.trans (hb5.mono HB.out.size))
    clear hb5
    cases t5 with
    | false =>
      have h := HH.out
      simp only [Bool.false_eq_true, if_false, Option.some.injEq] at h
      subst h
      go_wp2_with fail
      go_ret
      exact ⟨rfl, HB.out⟩
    | true =>
      have h := HH.out
      simp only [if_true] at h
      obtain ⟨t6, h6, h⟩ := Option.bind_eq_some_iff.1 h
      injection h with h
      subst h
      have H6 := Aside0.mk h6
      clear h6
      go_wp2_with fail
      refine (haversacklaw10_alive.calls k t6 _ H6.out).mono ?_
      rintro e w6 ⟨rfl, hb6⟩
      have HB := Aside0.mk (HB.out.trans (hb6.mono HB.out.size))
      clear hb6
      go_wp2_with fail
      go_ret
      exact ⟨rfl, HB.out⟩
theorem haversacklaw10_HeaderEnvelopes.walk (P : haversacklaw10_HeaderEnvelopes.Pure) (a0 : ByteArray) (w : World) (w0 : a0.size ≤ 140737488351232) :
  Calls Tryd.prog 9 #[.string a0] w fun e w' => e = .returned (.bool true) ∧ Below w.heap.size w w' := by
  obtain ⟨k, h⟩ := P a0 w0
  exact haversacklaw10_HeaderEnvelopes.callsE k a0 true w h
end Go.Proofs.YtkngjdhggcaonaaDoor.PP
