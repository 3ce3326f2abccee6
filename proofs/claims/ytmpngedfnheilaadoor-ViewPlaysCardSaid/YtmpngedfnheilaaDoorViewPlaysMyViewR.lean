/- YtmpngedfnheilaaDoorMyViewR, as far as ViewPlays needs it (prune.py). -/
import Derived.Test.YtmpngedfnheilaaDoorViewPlaysPPx9
import Derived.Test.YtmpngedfnheilaaDoorViewPlaysMyViewQ
namespace Go.Proofs.YtmpngedfnheilaaDoor.PP
open Go.RowKit Go.Proofs.YtmpngedfnheilaaDoorW.PrintWords Go.Proofs.YtmpngedfnheilaaDoorW.PrintLast Go.Proofs.YtmpngedfnheilaaDoorW.PrintMore
open Go.Proofs.YtmpngedfnheilaaDoor.My
set_option linter.unusedVariables false
set_option linter.unusedSimpArgs false
/-- Is there a message with this UID? -/
def inU (ls : List Ml) (u : Int) : Bool := ls.any fun m => m.f0 == u
theorem inU_iff (ls : List Ml) (u : Int) : inU ls u = true ↔ ∃ m ∈ ls, m.f0 = u := by simp [inU, List.any_eq_true]
theorem getI_thereU (x : Int) (ls : List Ml) : (getI (thereM ls) x).getD (.bool false) = .bool (inU ls x) := by
  rw [getI_there]
  by_cases h : ∃ m ∈ ls, m.f0 = x
  · rw [if_pos h, (inU_iff ls x).2 h]; rfl
  · rw [if_neg h]
    have : inU ls x = false := by
      cases h2 : inU ls x with
      | false => rfl
      | true => exact absurd ((inU_iff ls x).1 h2) h
    rw [this]; rfl
/-- Those that are gone, from the end. -/
def expL (ls : List Ml) : Nat → List Pl → List Tl → List Pl × List Tl
  | 0, l, out => (l, out)
  | i + 1, l, out => if inU ls (rd_T74 l i).f0 = true then expL ls i l out else expL ls i (l.eraseIdx i) (out ++ [⟨1, (i : Int) + 1, []⟩])
/-- The flags of the message with a UID. -/
def flagsU (FL : List ByteArray → List ByteArray) : List Ml → Int → List ByteArray
  | [], _ => []
  | m :: ms, u => if u = m.f0 then FL m.f1 else flagsU FL ms u
/-- Those whose flags differ, from place i on; n: how many are left. -/
def flgL (FL : List ByteArray → List ByteArray) (ls : List Ml) : Nat → Nat → List Pl → List Tl → List Pl × List Tl
  | 0, _, l, out => (l, out)
  | n + 1, i, l, out =>
    if inU ls (rd_T74 l i).f0 = true ∧ (rd_T74 l i).f1 ≠ flagsU FL ls (rd_T74 l i).f0 then
      flgL FL ls n (i + 1) (l.set i ⟨(rd_T74 l i).f0, flagsU FL ls (rd_T74 l i).f0⟩) (out ++ [⟨3, (i : Int) + 1, flagsU FL ls (rd_T74 l i).f0⟩])
    else flgL FL ls n (i + 1) l out
/-- All of it: the places, the top, what is told. -/
def syncL (FL : List ByteArray → List ByteArray) (q : Bool) (ls : List Ml) (l : List Pl) (top : Int) : (List Pl × Int) × List Tl :=
  let a := if q = true then (l, []) else expL ls l.length l []
  let b := growL FL ls a.1 top
  let out := if a.1.length < b.1.length then a.2 ++ [⟨2, (b.1.length : Int), []⟩] else a.2
  let c := flgL FL ls b.1.length 0 b.1 out
  ((c.1, b.2), c.2)
theorem FM.get {FL : List ByteArray → List ByteArray} {w : World} {base : Nat} (x : Int) : ∀ (ps : List (Int × Value)) (ms : List Ml), FM FL w base ps ms → (getI ps x = none ∧ inU ms x = false ∧ flagsU FL ms x = []) ∨ ∃ v, getI ps x = some v ∧ inU ms x = true ∧ Kd.R Kd.string 9 w base (fun _ => True) v (flagsU FL ms x)
  | [], [], _ => .inl ⟨rfl, rfl, rfl⟩
  | q :: ps, n :: ms, h => by
    by_cases hx : x = q.1
    · refine .inr ⟨q.2, by simp [getI, hx], ?_, ?_⟩
      · simp [inU, hx, h.1]
      · simp only [flagsU, hx, h.1, if_pos]
        exact h.2.1
    · have hx2 : ¬ x = n.f0 := fun e => hx (e.trans h.1.symm)
      have hb : (n.f0 == x) = false := beq_eq_false_iff_ne.mpr (fun e => hx2 e.symm)
      have ih := FM.get x ps ms h.2.2
      simp only [getI, if_neg hx, flagsU, if_neg hx2, inU, List.any_cons, hb, Bool.false_or]
      exact ih
  | [], n :: ms, h => h.elim
  | q :: ps, [], h => h.elim
theorem expL_len (ls : List Ml) : ∀ (n : Nat) (l : List Pl) (out : List Tl), (expL ls n l out).1.length ≤ l.length
  | 0, l, out => Nat.le_refl _
  | n + 1, l, out => by
    unfold expL
    split
    · exact expL_len ls n l out
    · have := expL_len ls n (l.eraseIdx n) (out ++ [⟨1, (n : Int) + 1, []⟩])
      have h2 : (l.eraseIdx n).length ≤ l.length := List.length_eraseIdx_le ..
      omega
theorem rd_erase (l : List Pl) (i j : Nat) : rd_T74 (l.eraseIdx i) j = if j < i then rd_T74 l j else rd_T74 l (j + 1 : Nat) := by
  unfold rd_T74
  simp only [Int.toNat_natCast, List.getD_eq_getElem?_getD, List.getElem?_eraseIdx]
  split <;> rfl
theorem Ris.erase {l : List Pl} {top : Int} (h : Ris l top) (i : Nat) (hi : i < l.length) : Ris (l.eraseIdx i) top := by
  have hl : (l.eraseIdx i).length = l.length - 1 := List.length_eraseIdx_of_lt hi
  refine ⟨fun a b hab hb => ?_, fun a ha => ?_, fun a ha => ?_, by have := h.big; omega⟩
  · rw [hl] at hb
    rw [rd_erase, rd_erase]
    split <;> split
    · exact h.up a b hab (by omega)
    · exact h.up a (b + 1) (by omega) (by omega)
    · omega
    · exact h.up (a + 1) (b + 1) (by omega) (by omega)
  · rw [hl] at ha
    rw [rd_erase]
    split
    · exact h.one a (by omega)
    · exact h.one (a + 1) (by omega)
  · rw [hl] at ha
    rw [rd_erase]
    split
    · exact h.top a (by omega)
    · exact h.top (a + 1) (by omega)
theorem rd_snoc (l : List Pl) (p : Pl) (j : Nat) : rd_T74 (l ++ [p]) j = if j < l.length then rd_T74 l j else if j = l.length then p else z74 := by
  unfold rd_T74
  simp only [Int.toNat_natCast, List.getD_eq_getElem?_getD]
  by_cases h : j < l.length
  · rw [if_pos h, List.getElem?_append_left h]
  · rw [if_neg h, List.getElem?_append_right (by omega)]
    by_cases h2 : j = l.length
    · rw [if_pos h2, h2]; simp
    · rw [if_neg h2]
      obtain ⟨d, hd⟩ : ∃ d, j - l.length = d + 1 := ⟨j - l.length - 1, by omega⟩
      rw [hd]; simp
theorem Ris.snoc {l : List Pl} {top : Int} (h : Ris l top) (p : Pl) (hp : top < p.f0) (h1 : 1 ≤ p.f0) (hb : l.length + 1 ≤ 1000000000) : Ris (l ++ [p]) p.f0 := by
  refine ⟨fun a b hab hb => ?_, fun a ha => ?_, fun a ha => ?_, by simpa using hb⟩
  · rw [List.length_append, List.length_singleton] at hb
    rw [rd_snoc, rd_snoc, if_pos (show a < l.length by omega)]
    split
    · exact h.up a b hab (by omega)
    · rw [if_pos (by omega)]
      have := h.top a (by omega); omega
  · rw [List.length_append, List.length_singleton] at ha
    rw [rd_snoc]
    split
    · exact h.one a (by omega)
    · rw [if_pos (by omega)]; exact h1
  · rw [List.length_append, List.length_singleton] at ha
    rw [rd_snoc]
    split
    · have := h.top a (by omega); omega
    · rw [if_pos (by omega)]; omega
theorem Ris.grow (FL : List ByteArray → List ByteArray) : ∀ (ms : List Ml) (l : List Pl) (top : Int), Ris l top → (∀ m ∈ ms, 1 ≤ m.f0) → l.length + ms.length ≤ 1000000000 → Ris (growL FL ms l top).1 (growL FL ms l top).2
  | [], l, top, h, _, _ => h
  | m :: ms, l, top, h, h1, hb => by
    rw [List.length_cons] at hb
    unfold growL
    split
    · exact Ris.grow FL ms _ _ (h.snoc ⟨m.f0, FL m.f1⟩ (by assumption) (h1 m (List.mem_cons_self ..)) (by omega)) (fun a ha => h1 a (List.mem_cons_of_mem _ ha)) (by simp; omega)
    · exact Ris.grow FL ms l top h (fun a ha => h1 a (List.mem_cons_of_mem _ ha)) (by omega)
theorem Ris.expL (ls : List Ml) : ∀ (n : Nat) (l : List Pl) (out : List Tl) (top : Int), Ris l top → n ≤ l.length → Ris (PP.expL ls n l out).1 top
  | 0, l, out, top, h, _ => h
  | n + 1, l, out, top, h, hn => by
    unfold PP.expL
    split
    · exact Ris.expL ls n l out top h (by omega)
    · exact Ris.expL ls n _ _ top (h.erase n (by omega)) (by rw [List.length_eraseIdx_of_lt (by omega)]; omega)
theorem rd_set (l : List Pl) (i : Nat) (p : Pl) (j : Nat) (hi : i < l.length) : rd_T74 (l.set i p) j = if j = i then p else rd_T74 l j := by
  unfold rd_T74
  simp only [Int.toNat_natCast, List.getD_eq_getElem?_getD, List.getElem?_set]
  by_cases h : i = j
  · subst h; simp [hi]
  · rw [if_neg h, if_neg (Ne.symm h)]
theorem Ris.set {l : List Pl} {top : Int} (h : Ris l top) (i : Nat) (hi : i < l.length) (f : List ByteArray) : Ris (l.set i ⟨(rd_T74 l i).f0, f⟩) top := by
  have hf : ∀ j, (rd_T74 (l.set i ⟨(rd_T74 l i).f0, f⟩) (j : Nat)).f0 = (rd_T74 l j).f0 := by
    intro j
    rw [rd_set l i _ j hi]
    split
    · rename_i e; rw [e]
    · rfl
  refine ⟨fun a b hab hb => ?_, fun a ha => ?_, fun a ha => ?_, by simpa using h.big⟩
  · rw [hf, hf]; exact h.up a b hab (by simpa using hb)
  · rw [hf]; exact h.one a (by simpa using ha)
  · rw [hf]; exact h.top a (by simpa using ha)
theorem Ris.flgL (FL : List ByteArray → List ByteArray) (ls : List Ml) : ∀ (n i : Nat) (l : List Pl) (out : List Tl) (top : Int), Ris l top → i + n ≤ l.length → Ris (PP.flgL FL ls n i l out).1 top
  | 0, i, l, out, top, h, _ => h
  | n + 1, i, l, out, top, h, hn => by
    unfold PP.flgL
    split
    · exact Ris.flgL FL ls n (i + 1) _ _ top (h.set i (by omega) _) (by simp; omega)
    · exact Ris.flgL FL ls n (i + 1) l out top h (by omega)
theorem Ris.sync (FL : List ByteArray → List ByteArray) (q : Bool) (ms : List Ml) (l : List Pl) (top : Int) (h : Ris l top) (hb : l.length + ms.length ≤ 1000000000) : Ris (syncL FL q (risL ms 0) l top).1.1 (syncL FL q (risL ms 0) l top).1.2 := by
  unfold syncL
  have h1 : Ris (if q = true then (l, ([] : List Tl)) else PP.expL (risL ms 0) l.length l []).1 top := by
    split
    · exact h
    · exact Ris.expL _ _ _ _ _ h (Nat.le_refl _)
  have hlen : (if q = true then (l, ([] : List Tl)) else PP.expL (risL ms 0) l.length l []).1.length ≤ l.length := by
    split
    · exact Nat.le_refl _
    · exact expL_len _ _ _ _
  have h2 := Ris.grow FL (risL ms 0) _ top h1 (fun m hm => by have := risL_above ms 0 m hm; omega) (by have := risL_len ms 0; omega)
  exact Ris.flgL FL _ _ _ _ _ _ h2 (by omega)
/-- What Sync has made so far: what is told, its two maps. -/
structure SX (FL : List ByteArray → List ByteArray) (w : World) (base : Nat) (vo : Value) (out : List Tl) (mf mt : Nat) (pf : List (Int × Value)) (ls : List Ml) (b1 : Nat) : Prop where
  told : TRow w base vo out
  flags : MI w mf pf
  there : MI w mt (thereM ls)
  each : FM FL w b1 pf ls
theorem SX.chg {FL : List ByteArray → List ByteArray} {w w' : World} {base : Nat} {vo : Value} {out : List Tl} {mf mt : Nat} {pf : List (Int × Value)} {ls : List Ml} {b1 : Nat} (h : SX FL w base vo out mf mt pf ls b1) (hc : Chg TV w w') : SX FL w' base vo out mf mt pf ls b1 :=
  ⟨h.told.chg hc, hc.mi h.flags, hc.mi h.there, FM.step (fun k hk => hc.t9 (by decide) hk) _ _ h.each⟩
theorem SX.below {FL : List ByteArray → List ByteArray} {w w' : World} {base : Nat} {vo : Value} {out : List Tl} {mf mt : Nat} {pf : List (Int × Value)} {ls : List Ml} {b1 : Nat} (h : SX FL w base vo out mf mt pf ls b1) (hc : Below w.heap.size w w') : SX FL w' base vo out mf mt pf ls b1 := h.chg (Chg.of_below hc)
theorem SX.grown {FL : List ByteArray → List ByteArray} {w w' : World} {base : Nat} {vo vo' : Value} {out out' : List Tl} {mf mt : Nat} {pf : List (Int × Value)} {ls : List Ml} {b1 : Nat} (h : SX FL w base vo out mf mt pf ls b1) (hg : w.grownBy w' vo.ownBlock) (h' : TRow w' base vo' out') : SX FL w' base vo' out' mf mt pf ls b1 := by
  have hm : ∀ b ps, MI w b ps → MI w' b ps := fun b ps hm => hm.keep (hg.block b (by obtain ⟨es, hb, _⟩ := hm; exact (Array.getElem?_eq_some_iff.1 hb).1) (fun e => by
    obtain ⟨c, hb⟩ := Kd.N_typed h.told b e.symm
    obtain ⟨es, hb2, _⟩ := hm
    rw [hb] at hb2
    cases hb2))
  exact ⟨h', hm _ _ h.flags, hm _ _ h.there, FM.step (fun k hk => hg.block k hk.lt (h.told.ne9 (by decide) hk)) _ _ h.each⟩
theorem VW.grownT {w w' : World} {N0 g base : Nat} {v vo : Value} {l : List Pl} {top : Int} {out : List Tl} (h : VW N0 w g v l top) (ht : TRow w base vo out) (hg : w.grownBy w' vo.ownBlock) : VW N0 w' g v l top :=
  h.keep (hg.block g h.lt (ht.ne h.blk (by decide))) (fun k hk => by
    obtain ⟨c, hb⟩ := Kd.N_typed h.row k hk
    exact hg.block k (Kd.N_lt h.row k hk) (ht.ne hb (by decide))) (fun k hk => hg.block k hk.lt (ht.ne9 (by decide) hk))
theorem told_base {w : World} {base : Nat} {vo : Value} {out : List Tl} (h : TRow w base vo out) : ∀ k, vo.ownBlock = some k → base ≤ k := Kd.N_base h
theorem ba_toList_inj {a b : ByteArray} : a.toList = b.toList ↔ a = b := by
  rw [ByteArray.toList_eq, ByteArray.toList_eq]
  exact ⟨fun h => ByteArray.ext (Array.toList_inj.1 h), fun h => by rw [h]⟩
theorem rdOf_drop (l : List ByteArray) (i : Nat) (h : i < l.length) : l.drop i = rdOf ByteArray.empty l i :: l.drop (i + 1) := by
  rw [List.drop_eq_getElem_cons h]
  unfold rdOf
  simp [List.getD_eq_getElem?_getD, List.getElem?_eq_getElem h]
theorem equal_l (l0 l1 : List ByteArray) (hl : l0.length = l1.length) (hb : l0.length ≤ 9223372036854775807) : ∀ (n i : Nat), i + n = l0.length → slices_Equal_string_string.l0 (n + 1) l0 l1 (l0.length : Int) i = some (decide (l0.drop i = l1.drop i))
  | 0, i, h => by
    rw [slices_Equal_string_string.l0, if_neg (by omega), List.drop_of_length_le (by omega), List.drop_of_length_le (by omega)]
    simp
  | n + 1, i, h => by
    rw [slices_Equal_string_string.l0, if_pos (by omega), if_pos (by omega), if_pos (by omega), if_pos (by omega), rdOf_drop l0 i (by omega), rdOf_drop l1 i (by omega)]
    rw [show wrap64 ((i : Int) + 1) = ((i + 1 : Nat) : Int) by unfold wrap64; omega, equal_l l0 l1 hl hb n (i + 1) (by omega)]
    by_cases he : rdOf ByteArray.empty l0 i = rdOf ByteArray.empty l1 i
    · rw [if_pos (ba_toList_inj.2 he), he]; simp
    · rw [if_neg (fun e => he (ba_toList_inj.1 e))]; simp [he]
theorem Equal_tells (l0 l1 : List ByteArray) (hb : l0.length ≤ 9223372036854775807) : ∃ k, slices_Equal_string_string.f k l0 l1 = some (decide (l0 = l1)) := by
  by_cases hl : l0.length = l1.length
  · refine ⟨l0.length + 1, ?_⟩
    rw [slices_Equal_string_string.f, if_pos (by omega)]
    have := equal_l l0 l1 hl hb l0.length 0 (by omega)
    simpa using this
  · refine ⟨0, ?_⟩
    rw [slices_Equal_string_string.f, if_neg (by omega)]
    have : ¬ l0 = l1 := fun e => hl (by rw [e])
    simp [this]
theorem flags_len : ∀ (k : Nat) (l acc : List ByteArray) (i : Int) (r : List ByteArray), search_Flags.l0 k l acc i = some r → r.length ≤ 1000
  | 0, _, _, _, _, h => by simp [search_Flags.l0] at h
  | k + 1, l, acc, i, r, h => by
    simp only [search_Flags.l0] at h
    by_cases c1 : i < (l.length : Int)
    · rw [if_pos c1] at h
      by_cases c2 : 0 ≤ i
      · rw [if_pos c2] at h
        obtain ⟨f, _, h⟩ := Option.bind_eq_some_iff.1 h
        by_cases c3 : f.toList = ([] : List UInt8)
        · rw [if_pos c3] at h; exact flags_len k _ _ _ _ h
        · rw [if_neg c3] at h
          obtain ⟨c, _, h⟩ := Option.bind_eq_some_iff.1 h
          by_cases c4 : c = true
          · rw [if_pos c4] at h; exact flags_len k _ _ _ _ h
          · rw [if_neg c4] at h
            by_cases c5 : (acc.length : Int) < 20
            · rw [if_pos c5] at h; exact flags_len k _ _ _ _ h
            · rw [if_neg c5] at h; exact flags_len k _ _ _ _ h
      · rw [if_neg c2] at h; cases h
    · rw [if_neg c1] at h
      by_cases c3 : acc.length ≤ 1000
      · rw [if_pos c3] at h
        cases h
        simp [sortB, bsB]
        exact c3
      · rw [if_neg c3] at h; cases h
theorem flagsU_len (FL : List ByteArray → List ByteArray) (kf : Nat) (x : Int) : ∀ (ms : List Ml), (∀ m ∈ ms, search_Flags.f kf m.f1 = some (FL m.f1)) → (flagsU FL ms x).length ≤ 1000
  | [], _ => by simp [flagsU]
  | m :: ms, h => by
    unfold flagsU
    split
    · exact flags_len kf _ _ _ _ (h m (List.mem_cons_self ..))
    · exact flagsU_len FL kf x ms (fun a ha => h a (List.mem_cons_of_mem _ ha))
theorem growL_len (FL : List ByteArray → List ByteArray) : ∀ (ms : List Ml) (l : List Pl) (top : Int), (growL FL ms l top).1.length ≤ l.length + ms.length
  | [], l, top => by simp [growL]
  | m :: ms, l, top => by
    unfold growL
    split
    · have := growL_len FL ms (l ++ [⟨m.f0, FL m.f1⟩]) m.f0
      rw [List.length_append, List.length_singleton] at this
      rw [List.length_cons]; omega
    · have := growL_len FL ms l top
      rw [List.length_cons]; omega
theorem own_len (A : Option Addr) (n m c : Nat) : (Value.slice A n c).ownBlock = (Value.slice A m c).ownBlock := by cases A <;> rfl
theorem VS_len {g n m c k : Nat} {A : Option Addr} (h : VS g (.slice A n c) k) : VS g (.slice A m c) k := h.imp id (fun h => (own_len A m n c).trans h)
end Go.Proofs.YtmpngedfnheilaaDoor.PP
