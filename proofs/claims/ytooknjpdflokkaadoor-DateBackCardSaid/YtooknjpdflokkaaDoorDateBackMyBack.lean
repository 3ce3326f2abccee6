/- YtooknjpdflokkaaDoorMyBack, as far as DateBack needs it (prune.py). -/
import Derived.Test.YtooknjpdflokkaaDoorDateBackMyDateM
import Derived.Test.YtooknjpdflokkaaDoorDateBackPPx1
import Derived.Test.YtooknjpdflokkaaDoorDateBackPPx11
import Derived.Test.YtooknjpdflokkaaDoorDateBackPPx4
import Derived.Test.YtooknjpdflokkaaDoorDateBackPPx7
import Derived.Test.YtooknjpdflokkaaDoorDateBackPPx8
import Derived.Test.YtooknjpdflokkaaDoorDateBackPPx9
namespace Go.Proofs.YtooknjpdflokkaaDoor.PP
open Go.RowKit Go.Proofs.YtooknjpdflokkaaDoorW.PrintWords Go.Proofs.YtooknjpdflokkaaDoorW.PrintLast Go.Proofs.YtooknjpdflokkaaDoorW.PrintMore
attribute [local go_sem] max2_int min2_int max_two min_two max_three min_three max_four min_four   -- for this text's walks alone
open Go.Proofs.YtooknjpdflokkaaDoor.My
set_option linter.unusedVariables false
set_option linter.unusedSimpArgs false
attribute [local go_sem high] eqA24
/-- The signs ahead of the year as blanks, one by one. -/
def blnC (j : Nat) (c : UInt8) : UInt8 := if c = 45 ∧ j < 8 then 32 else c
theorem blnC_hit {c : UInt8} {j : Nat} (h : (c.toNat : Int) = 45) (hj : j < 8) : (32 : Int) = ((blnC j c).toNat : Int) := by
  have : c = 45 := UInt8.toNat_inj.1 (by have : (45 : UInt8).toNat = 45 := rfl; omega)
  unfold blnC; rw [if_pos ⟨this, hj⟩]; rfl
theorem blnC_no {c : UInt8} {j : Nat} (h : c ≠ 45 ∨ ¬ j < 8) : blnC j c = c := by
  unfold blnC; rw [if_neg]; rintro ⟨a, b⟩; rcases h with h | h <;> contradiction
theorem bln_len (l : List UInt8) : ∀ i, (Pure.bln i l).length = l.length := by
  induction l with
  | nil => intro i; rfl
  | cons c r ih => intro i; simp [Pure.bln, ih]
theorem bln_at (l : List UInt8) : ∀ i j, (Pure.bln i l)[j]? = l[j]?.map (blnC (i + j)) := by
  induction l with
  | nil => intro i j; simp [Pure.bln]
  | cons c r ih =>
    intro i j
    cases j with
    | zero => simp [Pure.bln, blnC]
    | succ j =>
      simp only [Pure.bln, List.getElem?_cons_succ]
      rw [ih (i + 1) j, show i + 1 + j = i + (j + 1) by omega]
def blnF (s : ByteArray) : Option ByteArray := if s.size ≤ 9223372036854775807 then some ⟨(Pure.bln 0 s.data.toList).toArray⟩ else none
theorem blnF_some {s r : ByteArray} (h : blnF s = some r) : s.size ≤ 9223372036854775807 ∧ (⟨(Pure.bln 0 s.data.toList).toArray⟩ : ByteArray) = r := by
  unfold blnF at h
  split at h
  · injection h with h; exact ⟨by assumption, h⟩
  · cases h
/-- The block of a conversion's bytes, the first k of which are turned. -/
def CI (s : ByteArray) (g : Nat) (e : TypeId) (k : Nat) (w : World) : Prop :=
  ∃ cs : Array Value, w.heap[g]? = some (.cells cs e (cs.size, cs.size + 1)) ∧ s.size ≤ cs.size ∧
    ∀ j (h : j < s.size), cs[j]? = some (.int .u8 ((if j < k then blnC j s[j] else s[j]).toNat : Int))
theorem CI.start (W : World) (e : TypeId) (s : ByteArray) : CI s W.heap.size e 0 (Lib.bytesWorld W e s) := by
  obtain ⟨cs, h1, h2, h3⟩ := ConvInv.start id W e s
  exact ⟨cs, h1, h2, fun j h => by rw [h3 j h, if_neg (by omega), if_neg (by omega)]⟩
theorem CI.cell {s : ByteArray} {g : Nat} {e : TypeId} {k : Nat} {w : World} (h : CI s g e k w) (hk : k < s.size) :
    w.cell? ⟨g, k, none⟩ = some (.int .u8 (s[k].toNat : Int)) ∧ w.frozen? ⟨g, k, none⟩ = false := by
  obtain ⟨cs, h1, h2, h3⟩ := h
  have := h3 k hk
  rw [if_neg (by omega)] at this
  refine ⟨by simp [World.cell?, h1, this], ?_⟩
  simp [World.frozen?, h1]
  omega
theorem CI.put {s : ByteArray} {g : Nat} {e : TypeId} {k : Nat} {w : World} (h : CI s g e k w) (hk : k < s.size) (v : Int) (hv : v = ((blnC k s[k]).toNat : Int)) :
    CI s g e (k + 1) (w.setCell ⟨g, k, none⟩ (.int .u8 v)) := by
  obtain ⟨cs, h1, h2, h3⟩ := h
  have hsz : (cs.setIfInBounds k (.int .u8 v)).size = cs.size := by simp
  refine ⟨cs.setIfInBounds k (.int .u8 v), ?_, by rw [hsz]; exact h2, ?_⟩
  · rw [hsz]; simp [World.setCell, Array.getElem?_modify, h1]
  · intro j hj
    by_cases e1 : j = k
    · subst e1
      rw [Array.getElem?_setIfInBounds_self_of_lt (by omega), hv, if_pos (by omega)]
    · rw [Array.getElem?_setIfInBounds_ne (by omega), h3 j hj]
      by_cases h4 : j < k
      · rw [if_pos h4, if_pos (by omega)]
      · rw [if_neg h4, if_neg (by omega)]
theorem CI.same {s : ByteArray} {g : Nat} {e : TypeId} {k : Nat} {w : World} (h : CI s g e k w) (hk : k < s.size) (hv : blnC k s[k] = s[k]) : CI s g e (k + 1) w := by
  obtain ⟨cs, h1, h2, h3⟩ := h
  refine ⟨cs, h1, h2, fun j hj => ?_⟩
  rw [h3 j hj]
  by_cases e1 : j = k
  · subst e1; rw [if_neg (by omega), if_pos (by omega), hv]
  · by_cases h4 : j < k
    · rw [if_pos h4, if_pos (by omega)]
    · rw [if_neg h4, if_neg (by omega)]
theorem CI.reads {s : ByteArray} {g : Nat} {e : TypeId} {w : World} (h : CI s g e s.size w) (hs : s.size ≤ 9223372036854775807) :
    ReadsInt w .u8 (some ⟨g, 0, none⟩) s.size ((Pure.bln 0 s.data.toList).map fun b => (b.toNat : Int)) := by
  obtain ⟨cs, h1, h2, h3⟩ := h
  refine ⟨by simp [bln_len], hs, fun _ => ⟨_, rfl, fun j hj => ?_⟩⟩
  rw [add_plain]
  have h' : j < s.data.size := hj
  have := h3 j hj
  rw [if_pos hj] at this
  have hb := bln_at s.data.toList 0 j
  rw [Nat.zero_add] at hb
  simp [World.cell?, h1, this, List.getD_eq_getElem?_getD, hb, Array.getElem?_eq_getElem h']
  rfl
def haversacklaw09_DateBack.j0 : Nat → Bool → Int → Int → Int → Int → Int → Int → Int → Option (Bool)
  | 0, _, _, _, _, _, _, _, _ => none
  | k + 1, x31, x185000, x185001, x185002, x185003, x185004, x185005, x185006 => if x31 = true then none else ((date_Print.f k x185000 x185001 x185002 x185003 x185004 x185005 x185006).bind fun t197 => ((date_Right.f k x185000 x185001 x185002 x185003 x185004 x185005 x185006).bind fun t198 => (if t198 = true then ((date_Internal.f k t197).bind fun bt201 => ((blnF t197).bind fun t210 => ((date_Mail.f t210).bind fun bt211 => ((haversacklaw09_no.f bt201.2.2.2.2.2.2.2).bind fun t220 => ((haversacklaw09_no.f bt211.2.2.2.2.2.2.2).bind fun t221 => (if (wrap64 (t220 + t221)) = 0 then (if (bt201.1 == x185000 && (bt201.2.1 == x185001 && (bt201.2.2.1 == x185002 && (bt201.2.2.2.1 == x185003 && (bt201.2.2.2.2.1 == x185004 && (bt201.2.2.2.2.2.1 == x185005 && (bt201.2.2.2.2.2.2.1 == x185006))))))) = true then (if (bt211.1 == x185000 && (bt211.2.1 == x185001 && (bt211.2.2.1 == x185002 && (bt211.2.2.2.1 == x185003 && (bt211.2.2.2.2.1 == x185004 && (bt211.2.2.2.2.2.1 == x185005 && (bt211.2.2.2.2.2.2.1 == x185006))))))) = true then ((date_Unix.f k x185000 x185001 x185002 x185003 x185004 x185005 x185006).bind fun t222 => ((date_At.f k t222 x185006).bind fun bt223 => (if (bt223.1 == x185000 && (bt223.2.1 == x185001 && (bt223.2.2.1 == x185002 && (bt223.2.2.2.1 == x185003 && (bt223.2.2.2.2.1 == x185004 && (bt223.2.2.2.2.2.1 == x185005 && (bt223.2.2.2.2.2.2 == x185006))))))) = true then ((haversacklaw09_alive.f k).bind fun t230 => (some t230)) else none))) else none) else none) else none)))))) else (if t197.toList = ([] : List UInt8) then ((date_Unix.f k x185000 x185001 x185002 x185003 x185004 x185005 x185006).bind fun t199 => (if t199 = 0 then ((haversacklaw09_alive.f k).bind fun t200 => (some t200)) else none)) else none))))
def haversacklaw09_DateBack.f (k : Nat) (a0_0 : Int) (a0_1 : Int) (a0_2 : Int) (a0_3 : Int) (a0_4 : Int) (a0_5 : Int) (a0_6 : Int) (a1 : ByteArray) : Option (Bool) := if (a1.size : Int) > 2000 then ((haversacklaw09_alive.f k).bind fun t185 => (some t185)) else ((date_Internal.f k a1).bind fun bt186 => ((haversacklaw09_no.f bt186.2.2.2.2.2.2.2).bind fun t195 => (if t195 = 0 then ((date_Print.f k bt186.1 bt186.2.1 bt186.2.2.1 bt186.2.2.2.1 bt186.2.2.2.2.1 bt186.2.2.2.2.2.1 bt186.2.2.2.2.2.2.1).bind fun t196 => (haversacklaw09_DateBack.j0 k (t196.toList != a1.toList) a0_0 a0_1 a0_2 a0_3 a0_4 a0_5 a0_6)) else (haversacklaw09_DateBack.j0 k false a0_0 a0_1 a0_2 a0_3 a0_4 a0_5 a0_6))))
def haversacklaw09_DateBack.T18 : Bool × List (List Nat × List Nat) := (true, [([], []), ([0], [0]), ([], []), ([2, 1], [2]), ([1, 3], [1, 3]), ([4], [4]), ([5, 3], [5]), ([6], [6]), ([6], [6]), ([7, 8, 6], [6, 7, 8]), ([6, 9], [6, 9]), ([10, 6], [10]), ([11], [11]), ([11], [11]), ([12, 13, 11], [11, 12, 13]), ([11, 14], [11, 14]), ([15, 11], [15]), ([16], [16]), ([17, 16, 16], [16, 17]), ([16], [16]), ([19, 16], [16, 19]), ([18, 20, 18, 16], [16, 18, 20]), ([16], [16]), ([21, 22, 16], [16, 21, 22]), ([16, 23], [16, 23]), ([24, 21], [24]), ([25, 25], [25]), ([25, 26], [25, 26]), ([27, 26, 0, 1, 2, 3, 4, 5, 6, 7, 8, 9, 10, 11, 12, 13, 14, 15, 16, 17, 18, 19, 20, 21, 22, 23, 24, 25, 26, 27], [27])])
def haversacklaw09_DateBack.B18 : List Nat := [0, 1, 0, 7, 15, 31, 63, 127, 127, 511, 1023, 2047, 4095, 4095, 16383, 32767, 65535, 131071, 262143, 131071, 655359, 2097151, 131071, 8388607, 16777215, 33554431, 67108863, 134217727, 268435455]
theorem haversacklaw09_DateBack.tab18 : rtab .any (opsOf Tryd.f4 18) = haversacklaw09_DateBack.T18 := by kernel_rfl
theorem haversacklaw09_DateBack.bits18 : waitsOk haversacklaw09_DateBack.T18.2 haversacklaw09_DateBack.B18 = true := by kernel_rfl
set_option maxHeartbeats 8000000 in
set_option maxRecDepth 100000 in
theorem haversacklaw09_DateBack.calls (k : Nat) (a0_0 : Int) (a0_1 : Int) (a0_2 : Int) (a0_3 : Int) (a0_4 : Int) (a0_5 : Int) (a0_6 : Int) (a1 : ByteArray) (r : Bool) (w : World) (h : haversacklaw09_DateBack.f k a0_0 a0_1 a0_2 a0_3 a0_4 a0_5 a0_6 a1 = some r) :
    Calls Tryd.prog 4 #[.agg #[.int .i64 a0_0, .int .i64 a0_1, .int .i64 a0_2, .int .i64 a0_3, .int .i64 a0_4, .int .i64 a0_5, .int .i64 a0_6], .string a1] w fun e w' => e = .returned (.bool r) ∧ Below w.heap.size w w' := by
  have hu24 := Tryd.underlying24
  have HB := Aside0.mk (Below.refl w.heap.size w)
  have H : (if (a1.size : Int) > 2000 then ((haversacklaw09_alive.f k).bind fun t185 => (some t185)) else ((date_Internal.f k a1).bind fun bt186 => ((haversacklaw09_no.f bt186.2.2.2.2.2.2.2).bind fun t195 => (if t195 = 0 then ((date_Print.f k bt186.1 bt186.2.1 bt186.2.2.1 bt186.2.2.2.1 bt186.2.2.2.2.1 bt186.2.2.2.2.2.1 bt186.2.2.2.2.2.2.1).bind fun t196 => (haversacklaw09_DateBack.j0 k (t196.toList != a1.toList) a0_0 a0_1 a0_2 a0_3 a0_4 a0_5 a0_6)) else (haversacklaw09_DateBack.j0 k false a0_0 a0_1 a0_2 a0_3 a0_4 a0_5 a0_6))))) = some r := h
  clear h
  by_cases c3 : (a1.size : Int) > 2000
  · rw [if_pos c3] at H
    have c3b0 : decide (2000 < (a1.size : Int)) = true := decide_eq_true c3
    have c3b1 : decide (2000 < a1.size) = true := decide_eq_true (by omega)
    clear c3
    replace H := Option.bind_eq_some_iff.mp H
    obtain ⟨t185, A40, H⟩ := H
    replace H : (some t185) = some r := H
    have A4 := Aside0.mk A40
    clear A40
    obtain rfl := Option.some.inj H
    go_enter Tryd.func4, Tryd.ntmps4
    go_wp2_with (first | ((with_reducible refine gate_dst (N := 2) rfl ?_); refine box_event ?hg (N := 2) ?hd (cs := #[.int .i64 a0_0, .int .i64 a0_1, .int .i64 a0_2, .int .i64 a0_3, .int .i64 a0_4, .int .i64 a0_5, .int .i64 a0_6]) (t := 24) ?hr ?_; (case hd => rfl); (case hg => rfl); (case hr => first | (go_simp; done) | (go_simp; rfl)); intro gb184 hg w5 hbox hb; have n0_ := Aside0.mk (below_step (by repeat (first | (with_reducible first | exact HB.out | apply below_alloc | apply pw_below_drewN | apply below_drew1) | exact HB.out)) hb); have n1_ := Aside0.mk (hbox); have n2_ := Aside0.mk ((by rw [hg]; exact (below_size (by repeat (first | (with_reducible first | exact HB.out | apply below_alloc | apply pw_below_drewN | apply below_drew1) | exact HB.out))) : w.heap.size ≤ gb184)); have n3_ := Aside0.mk ((by rw [hg]; exact (below_size (by repeat (first | (with_reducible first | exact HB.out | apply below_alloc | apply pw_below_drewN | apply below_drew1) | exact HB.out))) : w.heap.size ≤ gb184)); clear HB; have HB := n0_; have BK184 := n1_; have GW184 := n2_; have GE184 := n3_; clear n0_ n1_ n2_ n3_; clear hb hbox hg) | ((with_reducible refine gate_callee (f := 5) rfl ?_); refine goesL_ (some 17) rfl rfl Tryd.func5 (by kernel_rfl) rfl #[] rfl (by (try simp only [List.map_toArray, List.map_cons, List.map_nil]); first | done | rfl | (simp only [List.length_drop, List.length_take]; rfl)) ?_; (with_reducible refine (haversacklaw09_alive.calls k  t185 _ A4.out).mono ?_); rintro e w6 ⟨rfl, hb⟩; refine ⟨_, rfl, ?_⟩; have n0_ := Aside0.mk (blk_below (g := gb184) (o := .cells #[.int .i64 a0_0, .int .i64 a0_1, .int .i64 a0_2, .int .i64 a0_3, .int .i64 a0_4, .int .i64 a0_5, .int .i64 a0_6] 24 (0, 0)) (by (with_reducible repeat (first | refine blk_drewN ?_ _ | refine blk_drew ?_ | refine blk_alloc ?_ _)); exact BK184.out) hb); have n1_ := Aside0.mk (below_step (by repeat (first | (with_reducible first | exact HB.out | apply below_alloc | apply pw_below_drewN | apply below_drew1 | refine below_set ?_ GE184.out) | exact HB.out)) hb); clear BK184; clear HB; have BK184 := n0_; have HB := n1_; clear n0_ n1_; (try clear hb); (try clear hb2); (try clear hk); (try clear hi)))
    go_ret
    exact ⟨by first | rfl | (simp [errW_none, errW_some] <;> rfl) | (simp [*, errW_none, errW_some] <;> rfl), by repeat (first | (with_reducible first | exact HB.out | apply below_alloc | apply pw_below_drewN | apply below_drew1 | refine below_set ?_ GE184.out) | exact HB.out)⟩
  · rw [if_neg c3] at H
    have c3b0 : decide (2000 < (a1.size : Int)) = false := decide_eq_false c3
    have c3b1 : decide (2000 < a1.size) = false := decide_eq_false (by omega)
    clear c3
    replace H := Option.bind_eq_some_iff.mp H
    obtain ⟨⟨t186, t187, t188, t189, t190, t191, t192, t193⟩, A70, H⟩ := H
    replace H : ((haversacklaw09_no.f t193).bind fun t195 => (if t195 = 0 then ((date_Print.f k t186 t187 t188 t189 t190 t191 t192).bind fun t196 => (haversacklaw09_DateBack.j0 k (t196.toList != a1.toList) a0_0 a0_1 a0_2 a0_3 a0_4 a0_5 a0_6)) else (haversacklaw09_DateBack.j0 k false a0_0 a0_1 a0_2 a0_3 a0_4 a0_5 a0_6))) = some r := H
    have A7 := Aside0.mk A70
    clear A70
    have HC8 := Aside0.mk H
    clear H
    go_enter Tryd.func4, Tryd.ntmps4
    go_upto_region 4 with (first | ((with_reducible refine gate_dst (N := 2) rfl ?_); refine box_event ?hg (N := 2) ?hd (cs := #[.int .i64 a0_0, .int .i64 a0_1, .int .i64 a0_2, .int .i64 a0_3, .int .i64 a0_4, .int .i64 a0_5, .int .i64 a0_6]) (t := 24) ?hr ?_; (case hd => rfl); (case hg => rfl); (case hr => first | (go_simp; done) | (go_simp; rfl)); intro gb184 hg w9 hbox hb; have n0_ := Aside0.mk (below_step (by repeat (first | (with_reducible first | exact HB.out | apply below_alloc | apply pw_below_drewN | apply below_drew1) | exact HB.out)) hb); have n1_ := Aside0.mk (hbox); have n2_ := Aside0.mk ((by rw [hg]; exact (below_size (by repeat (first | (with_reducible first | exact HB.out | apply below_alloc | apply pw_below_drewN | apply below_drew1) | exact HB.out))) : w.heap.size ≤ gb184)); have n3_ := Aside0.mk ((by rw [hg]; exact (below_size (by repeat (first | (with_reducible first | exact HB.out | apply below_alloc | apply pw_below_drewN | apply below_drew1) | exact HB.out))) : w.heap.size ≤ gb184)); clear HB; have HB := n0_; have BK184 := n1_; have GW184 := n2_; have GE184 := n3_; clear n0_ n1_ n2_ n3_; clear hb hbox hg) | ((with_reducible refine gate_callee (f := 11) rfl ?_); refine goesL_ (some 20) rfl rfl Tryd.func11 (by kernel_rfl) rfl #[.string a1] rfl (by (try simp only [List.map_toArray, List.map_cons, List.map_nil]); first | done | rfl | (simp only [List.length_drop, List.length_take]; rfl)) ?_; (with_reducible refine (date_Internal.calls k a1 t186 t187 t188 t189 t190 t191 t192 t193 _ A7.out).mono ?_); rintro e w10 ⟨rfl, hb⟩; refine ⟨_, rfl, ?_⟩; have n0_ := Aside0.mk (blk_below (g := gb184) (o := .cells #[.int .i64 a0_0, .int .i64 a0_1, .int .i64 a0_2, .int .i64 a0_3, .int .i64 a0_4, .int .i64 a0_5, .int .i64 a0_6] 24 (0, 0)) (by (with_reducible repeat (first | refine blk_drewN ?_ _ | refine blk_drew ?_ | refine blk_alloc ?_ _)); exact BK184.out) hb); have n1_ := Aside0.mk (below_step (by repeat (first | (with_reducible first | exact HB.out | apply below_alloc | apply pw_below_drewN | apply below_drew1 | refine below_set ?_ GE184.out) | exact HB.out)) hb); clear BK184; clear HB; have BK184 := n0_; have HB := n1_; clear n0_ n1_; (try clear hb); (try clear hb2); (try clear hk); (try clear hi)) | ((with_reducible refine gate_dst (N := 5) rfl ?_); refine box_event ?hg (N := 5) ?hd (cs := #[.int .i64 0, .int .i64 0, .int .i64 0, .int .i64 0, .int .i64 0, .int .i64 0, .int .i64 0]) (t := 24) ?hr ?_; (case hd => rfl); (case hg => rfl); (case hr => first | (go_simp; done) | (go_simp; rfl)); intro gb194 hg w11 hbox hb; have n0_ := Aside0.mk (blk_below (g := gb184) (o := .cells #[.int .i64 a0_0, .int .i64 a0_1, .int .i64 a0_2, .int .i64 a0_3, .int .i64 a0_4, .int .i64 a0_5, .int .i64 a0_6] 24 (0, 0)) (by (with_reducible repeat (first | refine blk_drewN ?_ _ | refine blk_drew ?_ | refine blk_alloc ?_ _)); exact BK184.out) hb); have n1_ := Aside0.mk (below_step (by repeat (first | (with_reducible first | exact HB.out | apply below_alloc | apply pw_below_drewN | apply below_drew1 | refine below_set ?_ GE184.out) | exact HB.out)) hb); have n2_ := Aside0.mk (hbox); have n3_ := Aside0.mk ((by rw [hg]; exact (below_size (by repeat (first | (with_reducible first | exact HB.out | apply below_alloc | apply pw_below_drewN | apply below_drew1 | refine below_set ?_ GE184.out) | exact HB.out))) : w.heap.size ≤ gb194)); have n4_ := Aside0.mk ((by rw [hg]; exact (below_size (by repeat (first | (with_reducible first | exact HB.out | apply below_alloc | apply pw_below_drewN | apply below_drew1 | refine below_set ?_ GE184.out) | exact HB.out))) : w.heap.size ≤ gb194)); have n5_ := Aside0.mk ((by rw [hg]; exact Nat.ne_of_lt (blk_lt (g := gb184) (o := .cells #[.int .i64 a0_0, .int .i64 a0_1, .int .i64 a0_2, .int .i64 a0_3, .int .i64 a0_4, .int .i64 a0_5, .int .i64 a0_6] 24 (0, 0)) (by (with_reducible repeat (first | refine blk_drewN ?_ _ | refine blk_drew ?_ | refine blk_alloc ?_ _)); exact BK184.out)) : gb184 ≠ gb194)); have n6_ := Aside0.mk ((by rw [hg]; exact Nat.ne_of_gt (blk_lt (g := gb184) (o := .cells #[.int .i64 a0_0, .int .i64 a0_1, .int .i64 a0_2, .int .i64 a0_3, .int .i64 a0_4, .int .i64 a0_5, .int .i64 a0_6] 24 (0, 0)) (by (with_reducible repeat (first | refine blk_drewN ?_ _ | refine blk_drew ?_ | refine blk_alloc ?_ _)); exact BK184.out)) : gb194 ≠ gb184)); clear BK184; clear HB; have BK184 := n0_; have HB := n1_; have BK194 := n2_; have GW194 := n3_; have GE194 := n4_; have NB184_194 := n5_; have NB194_184 := n6_; clear n0_ n1_ n2_ n3_ n4_ n5_ n6_; clear hb hbox hg; have hnb12 := NB194_184.out; have hnc12 := NB184_194.out; have hcz13_0 : w11.cell? ⟨gb194, 0, none⟩ = some (.int .i64 0) := (blk_cell BK194.out 0).trans rfl; have hcz13_1 : w11.cell? ⟨gb194, 1, none⟩ = some (.int .i64 0) := (blk_cell BK194.out 1).trans rfl; have hcz13_2 : w11.cell? ⟨gb194, 2, none⟩ = some (.int .i64 0) := (blk_cell BK194.out 2).trans rfl; have hcz13_3 : w11.cell? ⟨gb194, 3, none⟩ = some (.int .i64 0) := (blk_cell BK194.out 3).trans rfl; have hcz13_4 : w11.cell? ⟨gb194, 4, none⟩ = some (.int .i64 0) := (blk_cell BK194.out 4).trans rfl; have hcz13_5 : w11.cell? ⟨gb194, 5, none⟩ = some (.int .i64 0) := (blk_cell BK194.out 5).trans rfl; have hcz13_6 : w11.cell? ⟨gb194, 6, none⟩ = some (.int .i64 0) := (blk_cell BK194.out 6).trans rfl; have hfz13_0 := blk_frozen BK194.out 0; have hfz13_1 := blk_frozen BK194.out 1; have hfz13_2 := blk_frozen BK194.out 2; have hfz13_3 := blk_frozen BK194.out 3; have hfz13_4 := blk_frozen BK194.out 4; have hfz13_5 := blk_frozen BK194.out 5; have hfz13_6 := blk_frozen BK194.out 6))
    (try simp only [Act.put, List.setIfInBounds_toArray, List.set_cons_zero, List.set_cons_succ])
    go_cut [31] (fun v31 wc => ∃ (kq : Nat) (x31_7 : Bool), v31 = .bool x31_7 ∧ Aside0 (haversacklaw09_DateBack.j0 kq x31_7 a0_0 a0_1 a0_2 a0_3 a0_4 a0_5 a0_6 = some r) ∧ Aside0 (kq ≤ k) ∧ Aside0 (wc.heap[gb184]? = some (.cells #[.int .i64 a0_0, .int .i64 a0_1, .int .i64 a0_2, .int .i64 a0_3, .int .i64 a0_4, .int .i64 a0_5, .int .i64 a0_6] 24 (0, 0))) ∧ Aside0 (wc.heap[gb194]? = some (.cells #[.int .i64 t186, .int .i64 t187, .int .i64 t188, .int .i64 t189, .int .i64 t190, .int .i64 t191, .int .i64 t192] 24 (0, 0))) ∧ Aside0 (Below w.heap.size w wc))
    case first =>
      have H := HC8.out
      clear HC8
      replace H := Option.bind_eq_some_iff.mp H
      obtain ⟨t195, A140, H⟩ := H
      replace H : (if t195 = 0 then ((date_Print.f k t186 t187 t188 t189 t190 t191 t192).bind fun t196 => (haversacklaw09_DateBack.j0 k (t196.toList != a1.toList) a0_0 a0_1 a0_2 a0_3 a0_4 a0_5 a0_6)) else (haversacklaw09_DateBack.j0 k false a0_0 a0_1 a0_2 a0_3 a0_4 a0_5 a0_6)) = some r := H
      have A14 := Aside0.mk A140
      clear A140
      by_cases c15 : t195 = 0
      · rw [if_pos c15] at H
        have c15b0 : (t195 == 0) = true := beq_iff_eq.mpr c15
        have c15b1 : (t195 != 0) = false := bne_eq_false_iff_eq.mpr c15
        clear c15
        (first | rw [c15b0] | (simp only [i64_w, i32_w]; rw [c15b0]) | skip)
        replace H := Option.bind_eq_some_iff.mp H
        obtain ⟨t196, A160, H⟩ := H
        replace H : (haversacklaw09_DateBack.j0 k (t196.toList != a1.toList) a0_0 a0_1 a0_2 a0_3 a0_4 a0_5 a0_6) = some r := H
        have A16 := Aside0.mk A160
        clear A160
        have H' := Aside0.mk H
        clear H
        go_wp2_with (first | ((with_reducible refine gate_callee (f := 10) rfl ?_); refine goesL_ (some 24) rfl rfl Tryd.func10 (by kernel_rfl) rfl #[.int .i64 t193] rfl (by (try simp only [List.map_toArray, List.map_cons, List.map_nil]); first | done | rfl | (simp only [List.length_drop, List.length_take]; rfl)) ?_; (with_reducible refine (haversacklaw09_no.calls t193 t195 _ A14.out).mono ?_); rintro e w' ⟨rfl, ⟨nd, rfl⟩⟩; refine ⟨_, rfl, ?_⟩; have hnb17 := NB194_184.out; have hnc17 := NB184_194.out; have hcz18_0 : w11.cell? ⟨gb194, 0, none⟩ = some (.int .i64 0) := (blk_cell BK194.out 0).trans rfl; have hcz18_1 : w11.cell? ⟨gb194, 1, none⟩ = some (.int .i64 0) := (blk_cell BK194.out 1).trans rfl; have hcz18_2 : w11.cell? ⟨gb194, 2, none⟩ = some (.int .i64 0) := (blk_cell BK194.out 2).trans rfl; have hcz18_3 : w11.cell? ⟨gb194, 3, none⟩ = some (.int .i64 0) := (blk_cell BK194.out 3).trans rfl; have hcz18_4 : w11.cell? ⟨gb194, 4, none⟩ = some (.int .i64 0) := (blk_cell BK194.out 4).trans rfl; have hcz18_5 : w11.cell? ⟨gb194, 5, none⟩ = some (.int .i64 0) := (blk_cell BK194.out 5).trans rfl; have hcz18_6 : w11.cell? ⟨gb194, 6, none⟩ = some (.int .i64 0) := (blk_cell BK194.out 6).trans rfl; have hfz18_0 := blk_frozen BK194.out 0; have hfz18_1 := blk_frozen BK194.out 1; have hfz18_2 := blk_frozen BK194.out 2; have hfz18_3 := blk_frozen BK194.out 3; have hfz18_4 := blk_frozen BK194.out 4; have hfz18_5 := blk_frozen BK194.out 5; have hfz18_6 := blk_frozen BK194.out 6) | (go_at_call 12; (with_reducible refine (date_Print.calls k t186 t187 t188 t189 t190 t191 t192 t196 _ A16.out).mono ?_); rintro e w19 ⟨rfl, hb⟩; have n0_ := Aside0.mk (blk_below (g := gb184) (o := .cells #[.int .i64 a0_0, .int .i64 a0_1, .int .i64 a0_2, .int .i64 a0_3, .int .i64 a0_4, .int .i64 a0_5, .int .i64 a0_6] 24 (0, 0)) (by (with_reducible repeat (first | refine blk_drewN ?_ _ | refine blk_drew ?_ | refine blk_alloc ?_ _)); refine blk_far ?_ NB184_194.out _; (with_reducible repeat (first | refine blk_drewN ?_ _ | refine blk_drew ?_ | refine blk_alloc ?_ _)); refine blk_far ?_ NB184_194.out _; (with_reducible repeat (first | refine blk_drewN ?_ _ | refine blk_drew ?_ | refine blk_alloc ?_ _)); refine blk_far ?_ NB184_194.out _; (with_reducible repeat (first | refine blk_drewN ?_ _ | refine blk_drew ?_ | refine blk_alloc ?_ _)); refine blk_far ?_ NB184_194.out _; (with_reducible repeat (first | refine blk_drewN ?_ _ | refine blk_drew ?_ | refine blk_alloc ?_ _)); refine blk_far ?_ NB184_194.out _; (with_reducible repeat (first | refine blk_drewN ?_ _ | refine blk_drew ?_ | refine blk_alloc ?_ _)); refine blk_far ?_ NB184_194.out _; (with_reducible repeat (first | refine blk_drewN ?_ _ | refine blk_drew ?_ | refine blk_alloc ?_ _)); refine blk_far ?_ NB184_194.out _; (with_reducible repeat (first | refine blk_drewN ?_ _ | refine blk_drew ?_ | refine blk_alloc ?_ _)); exact BK184.out) hb); have n1_ := Aside0.mk (blk_below (g := gb194) (o := .cells #[.int .i64 t186, .int .i64 t187, .int .i64 t188, .int .i64 t189, .int .i64 t190, .int .i64 t191, .int .i64 t192] 24 (0, 0)) (by (with_reducible repeat (first | refine blk_drewN ?_ _ | refine blk_drew ?_ | refine blk_alloc ?_ _)); refine blk_put (cs := #[.int .i64 t186, .int .i64 t187, .int .i64 t188, .int .i64 t189, .int .i64 t190, .int .i64 t191, .int .i64 0]) ?_ 6 _ rfl; (with_reducible repeat (first | refine blk_drewN ?_ _ | refine blk_drew ?_ | refine blk_alloc ?_ _)); refine blk_put (cs := #[.int .i64 t186, .int .i64 t187, .int .i64 t188, .int .i64 t189, .int .i64 t190, .int .i64 0, .int .i64 0]) ?_ 5 _ rfl; (with_reducible repeat (first | refine blk_drewN ?_ _ | refine blk_drew ?_ | refine blk_alloc ?_ _)); refine blk_put (cs := #[.int .i64 t186, .int .i64 t187, .int .i64 t188, .int .i64 t189, .int .i64 0, .int .i64 0, .int .i64 0]) ?_ 4 _ rfl; (with_reducible repeat (first | refine blk_drewN ?_ _ | refine blk_drew ?_ | refine blk_alloc ?_ _)); refine blk_put (cs := #[.int .i64 t186, .int .i64 t187, .int .i64 t188, .int .i64 0, .int .i64 0, .int .i64 0, .int .i64 0]) ?_ 3 _ rfl; (with_reducible repeat (first | refine blk_drewN ?_ _ | refine blk_drew ?_ | refine blk_alloc ?_ _)); refine blk_put (cs := #[.int .i64 t186, .int .i64 t187, .int .i64 0, .int .i64 0, .int .i64 0, .int .i64 0, .int .i64 0]) ?_ 2 _ rfl; (with_reducible repeat (first | refine blk_drewN ?_ _ | refine blk_drew ?_ | refine blk_alloc ?_ _)); refine blk_put (cs := #[.int .i64 t186, .int .i64 0, .int .i64 0, .int .i64 0, .int .i64 0, .int .i64 0, .int .i64 0]) ?_ 1 _ rfl; (with_reducible repeat (first | refine blk_drewN ?_ _ | refine blk_drew ?_ | refine blk_alloc ?_ _)); refine blk_put (cs := #[.int .i64 0, .int .i64 0, .int .i64 0, .int .i64 0, .int .i64 0, .int .i64 0, .int .i64 0]) ?_ 0 _ rfl; (with_reducible repeat (first | refine blk_drewN ?_ _ | refine blk_drew ?_ | refine blk_alloc ?_ _)); exact BK194.out) hb); have n2_ := Aside0.mk (below_step (by repeat (first | (with_reducible first | exact HB.out | apply below_alloc | apply pw_below_drewN | apply below_drew1 | refine below_set ?_ GE184.out | refine below_set ?_ GE194.out) | exact HB.out)) hb); clear BK184; clear BK194; clear HB; have BK184 := n0_; have BK194 := n1_; have HB := n2_; clear n0_ n1_ n2_; (try clear hb); (try clear hb2); (try clear hk); (try clear hi)))
        go_meet
        case rel => exact ⟨_, ((t196.toList != a1.toList)), (by first | with_reducible rfl | (simp only [pps, Nat.reduceAdd]; done) | rfl | (simp; done) | (simp [*]; done)), H', ⟨by first | omega | exact Nat.le_refl _⟩, ⟨by (with_reducible repeat (first | refine blk_drewN ?_ _ | refine blk_drew ?_ | refine blk_alloc ?_ _)); exact BK184.out⟩, ⟨by (with_reducible repeat (first | refine blk_drewN ?_ _ | refine blk_drew ?_ | refine blk_alloc ?_ _)); exact BK194.out⟩, ⟨by repeat (first | (with_reducible first | exact HB.out | apply below_alloc | apply pw_below_drewN | apply below_drew1 | refine below_set ?_ GE184.out | refine below_set ?_ GE194.out) | exact HB.out)⟩⟩
      · rw [if_neg c15] at H
        have c15b0 : (t195 == 0) = false := beq_eq_false_iff_ne.mpr c15
        have c15b1 : (t195 != 0) = true := bne_iff_ne.mpr c15
        (first | rw [c15b0] | (simp only [i64_w, i32_w]; rw [c15b0]) | skip)
        have H' := Aside0.mk H
        clear H
        go_wp2_with (first | ((with_reducible refine gate_callee (f := 10) rfl ?_); refine goesL_ (some 24) rfl rfl Tryd.func10 (by kernel_rfl) rfl #[.int .i64 t193] rfl (by (try simp only [List.map_toArray, List.map_cons, List.map_nil]); first | done | rfl | (simp only [List.length_drop, List.length_take]; rfl)) ?_; (with_reducible refine (haversacklaw09_no.calls t193 t195 _ A14.out).mono ?_); rintro e w' ⟨rfl, ⟨nd, rfl⟩⟩; refine ⟨_, rfl, ?_⟩))
        go_meet
        case rel => exact ⟨_, (false), (by first | with_reducible rfl | (simp only [pps, Nat.reduceAdd]; done) | rfl | (simp; done) | (simp [*]; done)), H', ⟨by first | omega | exact Nat.le_refl _⟩, ⟨by (with_reducible repeat (first | refine blk_drewN ?_ _ | refine blk_drew ?_ | refine blk_alloc ?_ _)); refine blk_far ?_ NB184_194.out _; (with_reducible repeat (first | refine blk_drewN ?_ _ | refine blk_drew ?_ | refine blk_alloc ?_ _)); refine blk_far ?_ NB184_194.out _; (with_reducible repeat (first | refine blk_drewN ?_ _ | refine blk_drew ?_ | refine blk_alloc ?_ _)); refine blk_far ?_ NB184_194.out _; (with_reducible repeat (first | refine blk_drewN ?_ _ | refine blk_drew ?_ | refine blk_alloc ?_ _)); refine blk_far ?_ NB184_194.out _; (with_reducible repeat (first | refine blk_drewN ?_ _ | refine blk_drew ?_ | refine blk_alloc ?_ _)); refine blk_far ?_ NB184_194.out _; (with_reducible repeat (first | refine blk_drewN ?_ _ | refine blk_drew ?_ | refine blk_alloc ?_ _)); refine blk_far ?_ NB184_194.out _; (with_reducible repeat (first | refine blk_drewN ?_ _ | refine blk_drew ?_ | refine blk_alloc ?_ _)); refine blk_far ?_ NB184_194.out _; (with_reducible repeat (first | refine blk_drewN ?_ _ | refine blk_drew ?_ | refine blk_alloc ?_ _)); exact BK184.out⟩, ⟨by (with_reducible repeat (first | refine blk_drewN ?_ _ | refine blk_drew ?_ | refine blk_alloc ?_ _)); refine blk_put (cs := #[.int .i64 t186, .int .i64 t187, .int .i64 t188, .int .i64 t189, .int .i64 t190, .int .i64 t191, .int .i64 0]) ?_ 6 _ rfl; (with_reducible repeat (first | refine blk_drewN ?_ _ | refine blk_drew ?_ | refine blk_alloc ?_ _)); refine blk_put (cs := #[.int .i64 t186, .int .i64 t187, .int .i64 t188, .int .i64 t189, .int .i64 t190, .int .i64 0, .int .i64 0]) ?_ 5 _ rfl; (with_reducible repeat (first | refine blk_drewN ?_ _ | refine blk_drew ?_ | refine blk_alloc ?_ _)); refine blk_put (cs := #[.int .i64 t186, .int .i64 t187, .int .i64 t188, .int .i64 t189, .int .i64 0, .int .i64 0, .int .i64 0]) ?_ 4 _ rfl; (with_reducible repeat (first | refine blk_drewN ?_ _ | refine blk_drew ?_ | refine blk_alloc ?_ _)); refine blk_put (cs := #[.int .i64 t186, .int .i64 t187, .int .i64 t188, .int .i64 0, .int .i64 0, .int .i64 0, .int .i64 0]) ?_ 3 _ rfl; (with_reducible repeat (first | refine blk_drewN ?_ _ | refine blk_drew ?_ | refine blk_alloc ?_ _)); refine blk_put (cs := #[.int .i64 t186, .int .i64 t187, .int .i64 0, .int .i64 0, .int .i64 0, .int .i64 0, .int .i64 0]) ?_ 2 _ rfl; (with_reducible repeat (first | refine blk_drewN ?_ _ | refine blk_drew ?_ | refine blk_alloc ?_ _)); refine blk_put (cs := #[.int .i64 t186, .int .i64 0, .int .i64 0, .int .i64 0, .int .i64 0, .int .i64 0, .int .i64 0]) ?_ 1 _ rfl; (with_reducible repeat (first | refine blk_drewN ?_ _ | refine blk_drew ?_ | refine blk_alloc ?_ _)); refine blk_put (cs := #[.int .i64 0, .int .i64 0, .int .i64 0, .int .i64 0, .int .i64 0, .int .i64 0, .int .i64 0]) ?_ 0 _ rfl; (with_reducible repeat (first | refine blk_drewN ?_ _ | refine blk_drew ?_ | refine blk_alloc ?_ _)); exact BK194.out⟩, ⟨by repeat (first | (with_reducible first | exact HB.out | apply below_alloc | apply pw_below_drewN | apply below_drew1 | refine below_set ?_ GE184.out | refine below_set ?_ GE194.out) | exact HB.out)⟩⟩
    case rest =>
      clear HC8
      try clear c1
      try clear p2
      try clear c3
      try clear c3b0
      try clear c3b1
      try clear c4
      try clear c5
      try clear c10
      try clear c11
      try clear c12
      try clear c15
      try clear c15b0
      try clear c15b1
      try clear c17
      try clear hcz13_0
      try clear hcz13_1
      try clear hcz13_2
      try clear hcz13_3
      try clear hcz13_4
      try clear hcz13_5
      try clear hcz13_6
      try clear hcz18_0
      try clear hcz18_1
      try clear hcz18_2
      try clear hcz18_3
      try clear hcz18_4
      try clear hcz18_5
      try clear hcz18_6
      try clear hfz13_0
      try clear hfz13_1
      try clear hfz13_2
      try clear hfz13_3
      try clear hfz13_4
      try clear hfz13_5
      try clear hfz13_6
      try clear hfz18_0
      try clear hfz18_1
      try clear hfz18_2
      try clear hfz18_3
      try clear hfz18_4
      try clear hfz18_5
      try clear hfz18_6
      obtain ⟨kq, x31_7, rfl, HA, HJ7, BK184, BK194, HB⟩ := hcut
      cases kq with
      | zero => exact absurd HA.out (by simp [haversacklaw09_DateBack.j0])
      | succ kj7 =>
        have H := HA.out
        clear HA
        simp only [haversacklaw09_DateBack.j0] at H
        by_cases c20 : x31_7 = true
        · subst c20
          rw [if_pos rfl] at H
          cases H
        · replace c20 := Bool.eq_false_iff.mpr c20
          subst c20
          have H1 : ((date_Print.f kj7 a0_0 a0_1 a0_2 a0_3 a0_4 a0_5 a0_6).bind fun t197 => ((date_Right.f kj7 a0_0 a0_1 a0_2 a0_3 a0_4 a0_5 a0_6).bind fun t198 => (if t198 = true then ((date_Internal.f kj7 t197).bind fun bt201 => ((blnF t197).bind fun t210 => ((date_Mail.f t210).bind fun bt211 => ((haversacklaw09_no.f bt201.2.2.2.2.2.2.2).bind fun t220 => ((haversacklaw09_no.f bt211.2.2.2.2.2.2.2).bind fun t221 => (if (wrap64 (t220 + t221)) = 0 then (if (bt201.1 == a0_0 && (bt201.2.1 == a0_1 && (bt201.2.2.1 == a0_2 && (bt201.2.2.2.1 == a0_3 && (bt201.2.2.2.2.1 == a0_4 && (bt201.2.2.2.2.2.1 == a0_5 && (bt201.2.2.2.2.2.2.1 == a0_6))))))) = true then (if (bt211.1 == a0_0 && (bt211.2.1 == a0_1 && (bt211.2.2.1 == a0_2 && (bt211.2.2.2.1 == a0_3 && (bt211.2.2.2.2.1 == a0_4 && (bt211.2.2.2.2.2.1 == a0_5 && (bt211.2.2.2.2.2.2.1 == a0_6))))))) = true then ((date_Unix.f kj7 a0_0 a0_1 a0_2 a0_3 a0_4 a0_5 a0_6).bind fun t222 => ((date_At.f kj7 t222 a0_6).bind fun bt223 => (if (bt223.1 == a0_0 && (bt223.2.1 == a0_1 && (bt223.2.2.1 == a0_2 && (bt223.2.2.2.1 == a0_3 && (bt223.2.2.2.2.1 == a0_4 && (bt223.2.2.2.2.2.1 == a0_5 && (bt223.2.2.2.2.2.2 == a0_6))))))) = true then ((haversacklaw09_alive.f kj7).bind fun t230 => (some t230)) else none))) else none) else none) else none)))))) else (if t197.toList = ([] : List UInt8) then ((date_Unix.f kj7 a0_0 a0_1 a0_2 a0_3 a0_4 a0_5 a0_6).bind fun t199 => (if t199 = 0 then ((haversacklaw09_alive.f kj7).bind fun t200 => (some t200)) else none)) else none)))) = some r := by rw [if_neg (show ¬ (false = true) by decide)] at H; exact H
          clear H
          have H := H1
          clear H1
          replace H := Option.bind_eq_some_iff.mp H
          obtain ⟨t197, A210, H⟩ := H
          replace H : ((date_Right.f kj7 a0_0 a0_1 a0_2 a0_3 a0_4 a0_5 a0_6).bind fun t198 => (if t198 = true then ((date_Internal.f kj7 t197).bind fun bt201 => ((blnF t197).bind fun t210 => ((date_Mail.f t210).bind fun bt211 => ((haversacklaw09_no.f bt201.2.2.2.2.2.2.2).bind fun t220 => ((haversacklaw09_no.f bt211.2.2.2.2.2.2.2).bind fun t221 => (if (wrap64 (t220 + t221)) = 0 then (if (bt201.1 == a0_0 && (bt201.2.1 == a0_1 && (bt201.2.2.1 == a0_2 && (bt201.2.2.2.1 == a0_3 && (bt201.2.2.2.2.1 == a0_4 && (bt201.2.2.2.2.2.1 == a0_5 && (bt201.2.2.2.2.2.2.1 == a0_6))))))) = true then (if (bt211.1 == a0_0 && (bt211.2.1 == a0_1 && (bt211.2.2.1 == a0_2 && (bt211.2.2.2.1 == a0_3 && (bt211.2.2.2.2.1 == a0_4 && (bt211.2.2.2.2.2.1 == a0_5 && (bt211.2.2.2.2.2.2.1 == a0_6))))))) = true then ((date_Unix.f kj7 a0_0 a0_1 a0_2 a0_3 a0_4 a0_5 a0_6).bind fun t222 => ((date_At.f kj7 t222 a0_6).bind fun bt223 => (if (bt223.1 == a0_0 && (bt223.2.1 == a0_1 && (bt223.2.2.1 == a0_2 && (bt223.2.2.2.1 == a0_3 && (bt223.2.2.2.2.1 == a0_4 && (bt223.2.2.2.2.2.1 == a0_5 && (bt223.2.2.2.2.2.2 == a0_6))))))) = true then ((haversacklaw09_alive.f kj7).bind fun t230 => (some t230)) else none))) else none) else none) else none)))))) else (if t197.toList = ([] : List UInt8) then ((date_Unix.f kj7 a0_0 a0_1 a0_2 a0_3 a0_4 a0_5 a0_6).bind fun t199 => (if t199 = 0 then ((haversacklaw09_alive.f kj7).bind fun t200 => (some t200)) else none)) else none))) = some r := H
          have A21 := Aside0.mk A210
          clear A210
          replace H := Option.bind_eq_some_iff.mp H
          obtain ⟨t198, A220, H⟩ := H
          replace H : (if t198 = true then ((date_Internal.f kj7 t197).bind fun bt201 => ((blnF t197).bind fun t210 => ((date_Mail.f t210).bind fun bt211 => ((haversacklaw09_no.f bt201.2.2.2.2.2.2.2).bind fun t220 => ((haversacklaw09_no.f bt211.2.2.2.2.2.2.2).bind fun t221 => (if (wrap64 (t220 + t221)) = 0 then (if (bt201.1 == a0_0 && (bt201.2.1 == a0_1 && (bt201.2.2.1 == a0_2 && (bt201.2.2.2.1 == a0_3 && (bt201.2.2.2.2.1 == a0_4 && (bt201.2.2.2.2.2.1 == a0_5 && (bt201.2.2.2.2.2.2.1 == a0_6))))))) = true then (if (bt211.1 == a0_0 && (bt211.2.1 == a0_1 && (bt211.2.2.1 == a0_2 && (bt211.2.2.2.1 == a0_3 && (bt211.2.2.2.2.1 == a0_4 && (bt211.2.2.2.2.2.1 == a0_5 && (bt211.2.2.2.2.2.2.1 == a0_6))))))) = true then ((date_Unix.f kj7 a0_0 a0_1 a0_2 a0_3 a0_4 a0_5 a0_6).bind fun t222 => ((date_At.f kj7 t222 a0_6).bind fun bt223 => (if (bt223.1 == a0_0 && (bt223.2.1 == a0_1 && (bt223.2.2.1 == a0_2 && (bt223.2.2.2.1 == a0_3 && (bt223.2.2.2.2.1 == a0_4 && (bt223.2.2.2.2.2.1 == a0_5 && (bt223.2.2.2.2.2.2 == a0_6))))))) = true then ((haversacklaw09_alive.f kj7).bind fun t230 => (some t230)) else none))) else none) else none) else none)))))) else (if t197.toList = ([] : List UInt8) then ((date_Unix.f kj7 a0_0 a0_1 a0_2 a0_3 a0_4 a0_5 a0_6).bind fun t199 => (if t199 = 0 then ((haversacklaw09_alive.f kj7).bind fun t200 => (some t200)) else none)) else none)) = some r := H
          have A22 := Aside0.mk A220
          clear A220
          by_cases c23 : t198 = true
          · subst c23
            have H1 : ((date_Internal.f kj7 t197).bind fun bt201 => ((blnF t197).bind fun t210 => ((date_Mail.f t210).bind fun bt211 => ((haversacklaw09_no.f bt201.2.2.2.2.2.2.2).bind fun t220 => ((haversacklaw09_no.f bt211.2.2.2.2.2.2.2).bind fun t221 => (if (wrap64 (t220 + t221)) = 0 then (if (bt201.1 == a0_0 && (bt201.2.1 == a0_1 && (bt201.2.2.1 == a0_2 && (bt201.2.2.2.1 == a0_3 && (bt201.2.2.2.2.1 == a0_4 && (bt201.2.2.2.2.2.1 == a0_5 && (bt201.2.2.2.2.2.2.1 == a0_6))))))) = true then (if (bt211.1 == a0_0 && (bt211.2.1 == a0_1 && (bt211.2.2.1 == a0_2 && (bt211.2.2.2.1 == a0_3 && (bt211.2.2.2.2.1 == a0_4 && (bt211.2.2.2.2.2.1 == a0_5 && (bt211.2.2.2.2.2.2.1 == a0_6))))))) = true then ((date_Unix.f kj7 a0_0 a0_1 a0_2 a0_3 a0_4 a0_5 a0_6).bind fun t222 => ((date_At.f kj7 t222 a0_6).bind fun bt223 => (if (bt223.1 == a0_0 && (bt223.2.1 == a0_1 && (bt223.2.2.1 == a0_2 && (bt223.2.2.2.1 == a0_3 && (bt223.2.2.2.2.1 == a0_4 && (bt223.2.2.2.2.2.1 == a0_5 && (bt223.2.2.2.2.2.2 == a0_6))))))) = true then ((haversacklaw09_alive.f kj7).bind fun t230 => (some t230)) else none))) else none) else none) else none)))))) = some r := by rw [if_pos rfl] at H; exact H
            clear H
            have H := H1
            clear H1
            replace H := Option.bind_eq_some_iff.mp H
            obtain ⟨⟨t201, t202, t203, t204, t205, t206, t207, t208⟩, A240, H⟩ := H
            replace H : ((blnF t197).bind fun t210 => ((date_Mail.f t210).bind fun bt211 => ((haversacklaw09_no.f t208).bind fun t220 => ((haversacklaw09_no.f bt211.2.2.2.2.2.2.2).bind fun t221 => (if (wrap64 (t220 + t221)) = 0 then (if (t201 == a0_0 && (t202 == a0_1 && (t203 == a0_2 && (t204 == a0_3 && (t205 == a0_4 && (t206 == a0_5 && (t207 == a0_6))))))) = true then (if (bt211.1 == a0_0 && (bt211.2.1 == a0_1 && (bt211.2.2.1 == a0_2 && (bt211.2.2.2.1 == a0_3 && (bt211.2.2.2.2.1 == a0_4 && (bt211.2.2.2.2.2.1 == a0_5 && (bt211.2.2.2.2.2.2.1 == a0_6))))))) = true then ((date_Unix.f kj7 a0_0 a0_1 a0_2 a0_3 a0_4 a0_5 a0_6).bind fun t222 => ((date_At.f kj7 t222 a0_6).bind fun bt223 => (if (bt223.1 == a0_0 && (bt223.2.1 == a0_1 && (bt223.2.2.1 == a0_2 && (bt223.2.2.2.1 == a0_3 && (bt223.2.2.2.2.1 == a0_4 && (bt223.2.2.2.2.2.1 == a0_5 && (bt223.2.2.2.2.2.2 == a0_6))))))) = true then ((haversacklaw09_alive.f kj7).bind fun t230 => (some t230)) else none))) else none) else none) else none))))) = some r := H
            have A24 := Aside0.mk A240
            clear A240
            replace H := Option.bind_eq_some_iff.mp H
            obtain ⟨t210, A250, H⟩ := H
            replace H : ((date_Mail.f t210).bind fun bt211 => ((haversacklaw09_no.f t208).bind fun t220 => ((haversacklaw09_no.f bt211.2.2.2.2.2.2.2).bind fun t221 => (if (wrap64 (t220 + t221)) = 0 then (if (t201 == a0_0 && (t202 == a0_1 && (t203 == a0_2 && (t204 == a0_3 && (t205 == a0_4 && (t206 == a0_5 && (t207 == a0_6))))))) = true then (if (bt211.1 == a0_0 && (bt211.2.1 == a0_1 && (bt211.2.2.1 == a0_2 && (bt211.2.2.2.1 == a0_3 && (bt211.2.2.2.2.1 == a0_4 && (bt211.2.2.2.2.2.1 == a0_5 && (bt211.2.2.2.2.2.2.1 == a0_6))))))) = true then ((date_Unix.f kj7 a0_0 a0_1 a0_2 a0_3 a0_4 a0_5 a0_6).bind fun t222 => ((date_At.f kj7 t222 a0_6).bind fun bt223 => (if (bt223.1 == a0_0 && (bt223.2.1 == a0_1 && (bt223.2.2.1 == a0_2 && (bt223.2.2.2.1 == a0_3 && (bt223.2.2.2.2.1 == a0_4 && (bt223.2.2.2.2.2.1 == a0_5 && (bt223.2.2.2.2.2.2 == a0_6))))))) = true then ((haversacklaw09_alive.f kj7).bind fun t230 => (some t230)) else none))) else none) else none) else none)))) = some r := H
            have A25 := Aside0.mk A250
            clear A250
            replace H := Option.bind_eq_some_iff.mp H
            obtain ⟨⟨t211, t212, t213, t214, t215, t216, t217, t218⟩, A260, H⟩ := H
            replace H : ((haversacklaw09_no.f t208).bind fun t220 => ((haversacklaw09_no.f t218).bind fun t221 => (if (wrap64 (t220 + t221)) = 0 then (if (t201 == a0_0 && (t202 == a0_1 && (t203 == a0_2 && (t204 == a0_3 && (t205 == a0_4 && (t206 == a0_5 && (t207 == a0_6))))))) = true then (if (t211 == a0_0 && (t212 == a0_1 && (t213 == a0_2 && (t214 == a0_3 && (t215 == a0_4 && (t216 == a0_5 && (t217 == a0_6))))))) = true then ((date_Unix.f kj7 a0_0 a0_1 a0_2 a0_3 a0_4 a0_5 a0_6).bind fun t222 => ((date_At.f kj7 t222 a0_6).bind fun bt223 => (if (bt223.1 == a0_0 && (bt223.2.1 == a0_1 && (bt223.2.2.1 == a0_2 && (bt223.2.2.2.1 == a0_3 && (bt223.2.2.2.2.1 == a0_4 && (bt223.2.2.2.2.2.1 == a0_5 && (bt223.2.2.2.2.2.2 == a0_6))))))) = true then ((haversacklaw09_alive.f kj7).bind fun t230 => (some t230)) else none))) else none) else none) else none))) = some r := H
            have A26 := Aside0.mk A260
            clear A260
            replace H := Option.bind_eq_some_iff.mp H
            obtain ⟨t220, A270, H⟩ := H
            replace H : ((haversacklaw09_no.f t218).bind fun t221 => (if (wrap64 (t220 + t221)) = 0 then (if (t201 == a0_0 && (t202 == a0_1 && (t203 == a0_2 && (t204 == a0_3 && (t205 == a0_4 && (t206 == a0_5 && (t207 == a0_6))))))) = true then (if (t211 == a0_0 && (t212 == a0_1 && (t213 == a0_2 && (t214 == a0_3 && (t215 == a0_4 && (t216 == a0_5 && (t217 == a0_6))))))) = true then ((date_Unix.f kj7 a0_0 a0_1 a0_2 a0_3 a0_4 a0_5 a0_6).bind fun t222 => ((date_At.f kj7 t222 a0_6).bind fun bt223 => (if (bt223.1 == a0_0 && (bt223.2.1 == a0_1 && (bt223.2.2.1 == a0_2 && (bt223.2.2.2.1 == a0_3 && (bt223.2.2.2.2.1 == a0_4 && (bt223.2.2.2.2.2.1 == a0_5 && (bt223.2.2.2.2.2.2 == a0_6))))))) = true then ((haversacklaw09_alive.f kj7).bind fun t230 => (some t230)) else none))) else none) else none) else none)) = some r := H
            have A27 := Aside0.mk A270
            clear A270
            replace H := Option.bind_eq_some_iff.mp H
            obtain ⟨t221, A280, H⟩ := H
            replace H : (if (wrap64 (t220 + t221)) = 0 then (if (t201 == a0_0 && (t202 == a0_1 && (t203 == a0_2 && (t204 == a0_3 && (t205 == a0_4 && (t206 == a0_5 && (t207 == a0_6))))))) = true then (if (t211 == a0_0 && (t212 == a0_1 && (t213 == a0_2 && (t214 == a0_3 && (t215 == a0_4 && (t216 == a0_5 && (t217 == a0_6))))))) = true then ((date_Unix.f kj7 a0_0 a0_1 a0_2 a0_3 a0_4 a0_5 a0_6).bind fun t222 => ((date_At.f kj7 t222 a0_6).bind fun bt223 => (if (bt223.1 == a0_0 && (bt223.2.1 == a0_1 && (bt223.2.2.1 == a0_2 && (bt223.2.2.2.1 == a0_3 && (bt223.2.2.2.2.1 == a0_4 && (bt223.2.2.2.2.2.1 == a0_5 && (bt223.2.2.2.2.2.2 == a0_6))))))) = true then ((haversacklaw09_alive.f kj7).bind fun t230 => (some t230)) else none))) else none) else none) else none) = some r := H
            have A28 := Aside0.mk A280
            clear A280
            by_cases c29 : (wrap64 (t220 + t221)) = 0
            · rw [if_pos c29] at H
              have c29b0 : ((wrap64 (t220 + t221)) == 0) = true := beq_iff_eq.mpr c29
              have c29b1 : ((wrap64 (t220 + t221)) != 0) = false := bne_eq_false_iff_eq.mpr c29
              clear c29
              by_cases c30 : (t201 == a0_0 && (t202 == a0_1 && (t203 == a0_2 && (t204 == a0_3 && (t205 == a0_4 && (t206 == a0_5 && (t207 == a0_6))))))) = true
              · rw [if_pos c30] at H
                have c30b0 : (t201 == a0_0 && (t202 == a0_1 && (t203 == a0_2 && (t204 == a0_3 && (t205 == a0_4 && (t206 == a0_5 && (t207 == a0_6))))))) = true := c30
                (try (have c30b1 : decide (t201 = a0_0 && (t202 == a0_1 && (t203 == a0_2 && (t204 == a0_3 && (t205 == a0_4 && (t206 == a0_5 && (t207 == a0_6))))))) = true := by simpa using c30))
                (try (have c30b2 : (t201 == a0_0 && (t202 == a0_1 && (t203 == a0_2 && (t204 == a0_3 && (t205 == a0_4 && (t206 == a0_5 && (t207 == a0_6))))))) = true := by simpa using c30))
                clear c30
                by_cases c31 : (t211 == a0_0 && (t212 == a0_1 && (t213 == a0_2 && (t214 == a0_3 && (t215 == a0_4 && (t216 == a0_5 && (t217 == a0_6))))))) = true
                · rw [if_pos c31] at H
                  have c31b0 : (t211 == a0_0 && (t212 == a0_1 && (t213 == a0_2 && (t214 == a0_3 && (t215 == a0_4 && (t216 == a0_5 && (t217 == a0_6))))))) = true := c31
                  (try (have c31b1 : decide (t211 = a0_0 && (t212 == a0_1 && (t213 == a0_2 && (t214 == a0_3 && (t215 == a0_4 && (t216 == a0_5 && (t217 == a0_6))))))) = true := by simpa using c31))
                  (try (have c31b2 : (t211 == a0_0 && (t212 == a0_1 && (t213 == a0_2 && (t214 == a0_3 && (t215 == a0_4 && (t216 == a0_5 && (t217 == a0_6))))))) = true := by simpa using c31))
                  clear c31
                  replace H := Option.bind_eq_some_iff.mp H
                  obtain ⟨t222, A320, H⟩ := H
                  replace H : ((date_At.f kj7 t222 a0_6).bind fun bt223 => (if (bt223.1 == a0_0 && (bt223.2.1 == a0_1 && (bt223.2.2.1 == a0_2 && (bt223.2.2.2.1 == a0_3 && (bt223.2.2.2.2.1 == a0_4 && (bt223.2.2.2.2.2.1 == a0_5 && (bt223.2.2.2.2.2.2 == a0_6))))))) = true then ((haversacklaw09_alive.f kj7).bind fun t230 => (some t230)) else none)) = some r := H
                  have A32 := Aside0.mk A320
                  clear A320
                  replace H := Option.bind_eq_some_iff.mp H
                  obtain ⟨⟨t223, t224, t225, t226, t227, t228, t229⟩, A330, H⟩ := H
                  replace H : (if (t223 == a0_0 && (t224 == a0_1 && (t225 == a0_2 && (t226 == a0_3 && (t227 == a0_4 && (t228 == a0_5 && (t229 == a0_6))))))) = true then ((haversacklaw09_alive.f kj7).bind fun t230 => (some t230)) else none) = some r := H
                  have A33 := Aside0.mk A330
                  clear A330
                  by_cases c34 : (t223 == a0_0 && (t224 == a0_1 && (t225 == a0_2 && (t226 == a0_3 && (t227 == a0_4 && (t228 == a0_5 && (t229 == a0_6))))))) = true
                  · rw [if_pos c34] at H
                    have c34b0 : (t223 == a0_0 && (t224 == a0_1 && (t225 == a0_2 && (t226 == a0_3 && (t227 == a0_4 && (t228 == a0_5 && (t229 == a0_6))))))) = true := c34
                    (try (have c34b1 : decide (t223 = a0_0 && (t224 == a0_1 && (t225 == a0_2 && (t226 == a0_3 && (t227 == a0_4 && (t228 == a0_5 && (t229 == a0_6))))))) = true := by simpa using c34))
                    (try (have c34b2 : (t223 == a0_0 && (t224 == a0_1 && (t225 == a0_2 && (t226 == a0_3 && (t227 == a0_4 && (t228 == a0_5 && (t229 == a0_6))))))) = true := by simpa using c34))
                    clear c34
                    replace H := Option.bind_eq_some_iff.mp H
                    obtain ⟨t230, A350, H⟩ := H
                    replace H : (some t230) = some r := H
                    have A35 := Aside0.mk A350
                    clear A350
                    obtain rfl := Option.some.inj H
                    have hnb36 := NB184_194.out
                    have hnc36 := NB194_184.out
                    have hcz37_0 : wc.cell? ⟨gb184, 0, none⟩ = some (.int .i64 a0_0) := (blk_cell BK184.out 0).trans rfl
                    have hcz37_1 : wc.cell? ⟨gb184, 1, none⟩ = some (.int .i64 a0_1) := (blk_cell BK184.out 1).trans rfl
                    have hcz37_2 : wc.cell? ⟨gb184, 2, none⟩ = some (.int .i64 a0_2) := (blk_cell BK184.out 2).trans rfl
                    have hcz37_3 : wc.cell? ⟨gb184, 3, none⟩ = some (.int .i64 a0_3) := (blk_cell BK184.out 3).trans rfl
                    have hcz37_4 : wc.cell? ⟨gb184, 4, none⟩ = some (.int .i64 a0_4) := (blk_cell BK184.out 4).trans rfl
                    have hcz37_5 : wc.cell? ⟨gb184, 5, none⟩ = some (.int .i64 a0_5) := (blk_cell BK184.out 5).trans rfl
                    have hcz37_6 : wc.cell? ⟨gb184, 6, none⟩ = some (.int .i64 a0_6) := (blk_cell BK184.out 6).trans rfl
                    have hfz37_0 := blk_frozen BK184.out 0
                    have hfz37_1 := blk_frozen BK184.out 1
                    have hfz37_2 := blk_frozen BK184.out 2
                    have hfz37_3 := blk_frozen BK184.out 3
                    have hfz37_4 := blk_frozen BK184.out 4
                    have hfz37_5 := blk_frozen BK184.out 5
                    have hfz37_6 := blk_frozen BK184.out 6
                    go_upto_region 10 with (first | ((with_reducible refine gate_callee (f := 12) rfl ?_); refine goesL_ (some 33) rfl rfl Tryd.func12 (by kernel_rfl) rfl #[.agg #[.int .i64 a0_0, .int .i64 a0_1, .int .i64 a0_2, .int .i64 a0_3, .int .i64 a0_4, .int .i64 a0_5, .int .i64 a0_6]] rfl (by (try simp only [List.map_toArray, List.map_cons, List.map_nil]); first | done | rfl | (simp only [List.length_drop, List.length_take]; rfl)) ?_; (with_reducible refine (date_Print.calls kj7 a0_0 a0_1 a0_2 a0_3 a0_4 a0_5 a0_6 t197 _ A21.out).mono ?_); rintro e w38 ⟨rfl, hb⟩; refine ⟨_, rfl, ?_⟩; have n0_ := Aside0.mk (blk_below (g := gb184) (o := .cells #[.int .i64 a0_0, .int .i64 a0_1, .int .i64 a0_2, .int .i64 a0_3, .int .i64 a0_4, .int .i64 a0_5, .int .i64 a0_6] 24 (0, 0)) (by (with_reducible repeat (first | refine blk_drewN ?_ _ | refine blk_drew ?_ | refine blk_alloc ?_ _)); exact BK184.out) hb); have n1_ := Aside0.mk (blk_below (g := gb194) (o := .cells #[.int .i64 t186, .int .i64 t187, .int .i64 t188, .int .i64 t189, .int .i64 t190, .int .i64 t191, .int .i64 t192] 24 (0, 0)) (by (with_reducible repeat (first | refine blk_drewN ?_ _ | refine blk_drew ?_ | refine blk_alloc ?_ _)); exact BK194.out) hb); have n2_ := Aside0.mk (below_step (by repeat (first | (with_reducible first | exact HB.out | apply below_alloc | apply pw_below_drewN | apply below_drew1 | refine below_set ?_ GE184.out | refine below_set ?_ GE194.out) | exact HB.out)) hb); clear BK184; clear BK194; clear HB; have BK184 := n0_; have BK194 := n1_; have HB := n2_; clear n0_ n1_ n2_; (try clear hb); (try clear hb2); (try clear hk); (try clear hi); have hcz39_0 : w38.cell? ⟨gb184, 0, none⟩ = some (.int .i64 a0_0) := (blk_cell BK184.out 0).trans rfl; have hcz39_1 : w38.cell? ⟨gb184, 1, none⟩ = some (.int .i64 a0_1) := (blk_cell BK184.out 1).trans rfl; have hcz39_2 : w38.cell? ⟨gb184, 2, none⟩ = some (.int .i64 a0_2) := (blk_cell BK184.out 2).trans rfl; have hcz39_3 : w38.cell? ⟨gb184, 3, none⟩ = some (.int .i64 a0_3) := (blk_cell BK184.out 3).trans rfl; have hcz39_4 : w38.cell? ⟨gb184, 4, none⟩ = some (.int .i64 a0_4) := (blk_cell BK184.out 4).trans rfl; have hcz39_5 : w38.cell? ⟨gb184, 5, none⟩ = some (.int .i64 a0_5) := (blk_cell BK184.out 5).trans rfl; have hcz39_6 : w38.cell? ⟨gb184, 6, none⟩ = some (.int .i64 a0_6) := (blk_cell BK184.out 6).trans rfl; have hfz39_0 := blk_frozen BK184.out 0; have hfz39_1 := blk_frozen BK184.out 1; have hfz39_2 := blk_frozen BK184.out 2; have hfz39_3 := blk_frozen BK184.out 3; have hfz39_4 := blk_frozen BK184.out 4; have hfz39_5 := blk_frozen BK184.out 5; have hfz39_6 := blk_frozen BK184.out 6) | ((with_reducible refine gate_callee (f := 13) rfl ?_); refine goesL_ (some 35) rfl rfl Tryd.func13 (by kernel_rfl) rfl #[.agg #[.int .i64 a0_0, .int .i64 a0_1, .int .i64 a0_2, .int .i64 a0_3, .int .i64 a0_4, .int .i64 a0_5, .int .i64 a0_6]] rfl (by (try simp only [List.map_toArray, List.map_cons, List.map_nil]); first | done | rfl | (simp only [List.length_drop, List.length_take]; rfl)) ?_; (with_reducible refine (date_Right.calls kj7 a0_0 a0_1 a0_2 a0_3 a0_4 a0_5 a0_6 true _ A22.out).mono ?_); rintro e w40 ⟨rfl, hb⟩; refine ⟨_, rfl, ?_⟩; have n0_ := Aside0.mk (blk_below (g := gb184) (o := .cells #[.int .i64 a0_0, .int .i64 a0_1, .int .i64 a0_2, .int .i64 a0_3, .int .i64 a0_4, .int .i64 a0_5, .int .i64 a0_6] 24 (0, 0)) (by (with_reducible repeat (first | refine blk_drewN ?_ _ | refine blk_drew ?_ | refine blk_alloc ?_ _)); exact BK184.out) hb); have n1_ := Aside0.mk (blk_below (g := gb194) (o := .cells #[.int .i64 t186, .int .i64 t187, .int .i64 t188, .int .i64 t189, .int .i64 t190, .int .i64 t191, .int .i64 t192] 24 (0, 0)) (by (with_reducible repeat (first | refine blk_drewN ?_ _ | refine blk_drew ?_ | refine blk_alloc ?_ _)); exact BK194.out) hb); have n2_ := Aside0.mk (below_step (by repeat (first | (with_reducible first | exact HB.out | apply below_alloc | apply pw_below_drewN | apply below_drew1 | refine below_set ?_ GE184.out | refine below_set ?_ GE194.out) | exact HB.out)) hb); clear BK184; clear BK194; clear HB; have BK184 := n0_; have BK194 := n1_; have HB := n2_; clear n0_ n1_ n2_; (try clear hb); (try clear hb2); (try clear hk); (try clear hi)) | ((with_reducible refine gate_callee (f := 11) rfl ?_); refine goesL_ (some 49) rfl rfl Tryd.func11 (by kernel_rfl) rfl #[.string t197] rfl (by (try simp only [List.map_toArray, List.map_cons, List.map_nil]); first | done | rfl | (simp only [List.length_drop, List.length_take]; rfl)) ?_; (with_reducible refine (date_Internal.calls kj7 t197 t201 t202 t203 t204 t205 t206 t207 t208 _ A24.out).mono ?_); rintro e w41 ⟨rfl, hb⟩; refine ⟨_, rfl, ?_⟩; have n0_ := Aside0.mk (blk_below (g := gb184) (o := .cells #[.int .i64 a0_0, .int .i64 a0_1, .int .i64 a0_2, .int .i64 a0_3, .int .i64 a0_4, .int .i64 a0_5, .int .i64 a0_6] 24 (0, 0)) (by (with_reducible repeat (first | refine blk_drewN ?_ _ | refine blk_drew ?_ | refine blk_alloc ?_ _)); exact BK184.out) hb); have n1_ := Aside0.mk (blk_below (g := gb194) (o := .cells #[.int .i64 t186, .int .i64 t187, .int .i64 t188, .int .i64 t189, .int .i64 t190, .int .i64 t191, .int .i64 t192] 24 (0, 0)) (by (with_reducible repeat (first | refine blk_drewN ?_ _ | refine blk_drew ?_ | refine blk_alloc ?_ _)); exact BK194.out) hb); have n2_ := Aside0.mk (below_step (by repeat (first | (with_reducible first | exact HB.out | apply below_alloc | apply pw_below_drewN | apply below_drew1 | refine below_set ?_ GE184.out | refine below_set ?_ GE194.out) | exact HB.out)) hb); clear BK184; clear BK194; clear HB; have BK184 := n0_; have BK194 := n1_; have HB := n2_; clear n0_ n1_ n2_; (try clear hb); (try clear hb2); (try clear hk); (try clear hi)) | ((with_reducible refine gate_dst (N := 8) rfl ?_); refine box_event ?hg (N := 8) ?hd (cs := #[.int .i64 0, .int .i64 0, .int .i64 0, .int .i64 0, .int .i64 0, .int .i64 0, .int .i64 0]) (t := 24) ?hr ?_; (case hd => rfl); (case hg => rfl); (case hr => first | (go_simp; done) | (go_simp; rfl)); intro gb209 hg w42 hbox hb; have n0_ := Aside0.mk (blk_below (g := gb184) (o := .cells #[.int .i64 a0_0, .int .i64 a0_1, .int .i64 a0_2, .int .i64 a0_3, .int .i64 a0_4, .int .i64 a0_5, .int .i64 a0_6] 24 (0, 0)) (by (with_reducible repeat (first | refine blk_drewN ?_ _ | refine blk_drew ?_ | refine blk_alloc ?_ _)); exact BK184.out) hb); have n1_ := Aside0.mk (blk_below (g := gb194) (o := .cells #[.int .i64 t186, .int .i64 t187, .int .i64 t188, .int .i64 t189, .int .i64 t190, .int .i64 t191, .int .i64 t192] 24 (0, 0)) (by (with_reducible repeat (first | refine blk_drewN ?_ _ | refine blk_drew ?_ | refine blk_alloc ?_ _)); exact BK194.out) hb); have n2_ := Aside0.mk (below_step (by repeat (first | (with_reducible first | exact HB.out | apply below_alloc | apply pw_below_drewN | apply below_drew1 | refine below_set ?_ GE184.out | refine below_set ?_ GE194.out) | exact HB.out)) hb); have n3_ := Aside0.mk (hbox); have n4_ := Aside0.mk ((by rw [hg]; exact (below_size (by repeat (first | (with_reducible first | exact HB.out | apply below_alloc | apply pw_below_drewN | apply below_drew1 | refine below_set ?_ GE184.out | refine below_set ?_ GE194.out) | exact HB.out))) : w.heap.size ≤ gb209)); have n5_ := Aside0.mk ((by rw [hg]; exact (below_size (by repeat (first | (with_reducible first | exact HB.out | apply below_alloc | apply pw_below_drewN | apply below_drew1 | refine below_set ?_ GE184.out | refine below_set ?_ GE194.out) | exact HB.out))) : w.heap.size ≤ gb209)); have n6_ := Aside0.mk ((by rw [hg]; exact Nat.ne_of_lt (blk_lt (g := gb184) (o := .cells #[.int .i64 a0_0, .int .i64 a0_1, .int .i64 a0_2, .int .i64 a0_3, .int .i64 a0_4, .int .i64 a0_5, .int .i64 a0_6] 24 (0, 0)) (by (with_reducible repeat (first | refine blk_drewN ?_ _ | refine blk_drew ?_ | refine blk_alloc ?_ _)); exact BK184.out)) : gb184 ≠ gb209)); have n7_ := Aside0.mk ((by rw [hg]; exact Nat.ne_of_gt (blk_lt (g := gb184) (o := .cells #[.int .i64 a0_0, .int .i64 a0_1, .int .i64 a0_2, .int .i64 a0_3, .int .i64 a0_4, .int .i64 a0_5, .int .i64 a0_6] 24 (0, 0)) (by (with_reducible repeat (first | refine blk_drewN ?_ _ | refine blk_drew ?_ | refine blk_alloc ?_ _)); exact BK184.out)) : gb209 ≠ gb184)); have n8_ := Aside0.mk ((by rw [hg]; exact Nat.ne_of_lt (blk_lt (g := gb194) (o := .cells #[.int .i64 t186, .int .i64 t187, .int .i64 t188, .int .i64 t189, .int .i64 t190, .int .i64 t191, .int .i64 t192] 24 (0, 0)) (by (with_reducible repeat (first | refine blk_drewN ?_ _ | refine blk_drew ?_ | refine blk_alloc ?_ _)); exact BK194.out)) : gb194 ≠ gb209)); have n9_ := Aside0.mk ((by rw [hg]; exact Nat.ne_of_gt (blk_lt (g := gb194) (o := .cells #[.int .i64 t186, .int .i64 t187, .int .i64 t188, .int .i64 t189, .int .i64 t190, .int .i64 t191, .int .i64 t192] 24 (0, 0)) (by (with_reducible repeat (first | refine blk_drewN ?_ _ | refine blk_drew ?_ | refine blk_alloc ?_ _)); exact BK194.out)) : gb209 ≠ gb194)); clear BK184; clear BK194; clear HB; have BK184 := n0_; have BK194 := n1_; have HB := n2_; have BK209 := n3_; have GW209 := n4_; have GE209 := n5_; have NB184_209 := n6_; have NB209_184 := n7_; have NB194_209 := n8_; have NB209_194 := n9_; clear n0_ n1_ n2_ n3_ n4_ n5_ n6_ n7_ n8_ n9_; clear hb hbox hg; have hnb43 := NB209_184.out; have hnc43 := NB184_209.out; have hnb44 := NB209_194.out; have hnc44 := NB194_209.out; have hcz45_0 : w42.cell? ⟨gb209, 0, none⟩ = some (.int .i64 0) := (blk_cell BK209.out 0).trans rfl; have hcz45_1 : w42.cell? ⟨gb209, 1, none⟩ = some (.int .i64 0) := (blk_cell BK209.out 1).trans rfl; have hcz45_2 : w42.cell? ⟨gb209, 2, none⟩ = some (.int .i64 0) := (blk_cell BK209.out 2).trans rfl; have hcz45_3 : w42.cell? ⟨gb209, 3, none⟩ = some (.int .i64 0) := (blk_cell BK209.out 3).trans rfl; have hcz45_4 : w42.cell? ⟨gb209, 4, none⟩ = some (.int .i64 0) := (blk_cell BK209.out 4).trans rfl; have hcz45_5 : w42.cell? ⟨gb209, 5, none⟩ = some (.int .i64 0) := (blk_cell BK209.out 5).trans rfl; have hcz45_6 : w42.cell? ⟨gb209, 6, none⟩ = some (.int .i64 0) := (blk_cell BK209.out 6).trans rfl; have hfz45_0 := blk_frozen BK209.out 0; have hfz45_1 := blk_frozen BK209.out 1; have hfz45_2 := blk_frozen BK209.out 2; have hfz45_3 := blk_frozen BK209.out 3; have hfz45_4 := blk_frozen BK209.out 4; have hfz45_5 := blk_frozen BK209.out 5; have hfz45_6 := blk_frozen BK209.out 6))
                    have n0_ : Aside0 ((((((((w42.setCell ⟨gb209, 0, none⟩ (.int .i64 t201)).setCell ⟨gb209, 1, none⟩ (.int .i64 t202)).setCell ⟨gb209, 2, none⟩ (.int .i64 t203)).setCell ⟨gb209, 3, none⟩ (.int .i64 t204)).setCell ⟨gb209, 4, none⟩ (.int .i64 t205)).setCell ⟨gb209, 5, none⟩ (.int .i64 t206)).setCell ⟨gb209, 6, none⟩ (.int .i64 t207)).heap[gb184]? = some (.cells #[.int .i64 a0_0, .int .i64 a0_1, .int .i64 a0_2, .int .i64 a0_3, .int .i64 a0_4, .int .i64 a0_5, .int .i64 a0_6] 24 (0, 0))) := ⟨by (with_reducible repeat (first | refine blk_drewN ?_ _ | refine blk_drew ?_ | refine blk_alloc ?_ _)); refine blk_far ?_ NB184_209.out _; (with_reducible repeat (first | refine blk_drewN ?_ _ | refine blk_drew ?_ | refine blk_alloc ?_ _)); refine blk_far ?_ NB184_209.out _; (with_reducible repeat (first | refine blk_drewN ?_ _ | refine blk_drew ?_ | refine blk_alloc ?_ _)); refine blk_far ?_ NB184_209.out _; (with_reducible repeat (first | refine blk_drewN ?_ _ | refine blk_drew ?_ | refine blk_alloc ?_ _)); refine blk_far ?_ NB184_209.out _; (with_reducible repeat (first | refine blk_drewN ?_ _ | refine blk_drew ?_ | refine blk_alloc ?_ _)); refine blk_far ?_ NB184_209.out _; (with_reducible repeat (first | refine blk_drewN ?_ _ | refine blk_drew ?_ | refine blk_alloc ?_ _)); refine blk_far ?_ NB184_209.out _; (with_reducible repeat (first | refine blk_drewN ?_ _ | refine blk_drew ?_ | refine blk_alloc ?_ _)); refine blk_far ?_ NB184_209.out _; (with_reducible repeat (first | refine blk_drewN ?_ _ | refine blk_drew ?_ | refine blk_alloc ?_ _)); exact BK184.out⟩
                    have n1_ : Aside0 ((((((((w42.setCell ⟨gb209, 0, none⟩ (.int .i64 t201)).setCell ⟨gb209, 1, none⟩ (.int .i64 t202)).setCell ⟨gb209, 2, none⟩ (.int .i64 t203)).setCell ⟨gb209, 3, none⟩ (.int .i64 t204)).setCell ⟨gb209, 4, none⟩ (.int .i64 t205)).setCell ⟨gb209, 5, none⟩ (.int .i64 t206)).setCell ⟨gb209, 6, none⟩ (.int .i64 t207)).heap[gb194]? = some (.cells #[.int .i64 t186, .int .i64 t187, .int .i64 t188, .int .i64 t189, .int .i64 t190, .int .i64 t191, .int .i64 t192] 24 (0, 0))) := ⟨by (with_reducible repeat (first | refine blk_drewN ?_ _ | refine blk_drew ?_ | refine blk_alloc ?_ _)); refine blk_far ?_ NB194_209.out _; (with_reducible repeat (first | refine blk_drewN ?_ _ | refine blk_drew ?_ | refine blk_alloc ?_ _)); refine blk_far ?_ NB194_209.out _; (with_reducible repeat (first | refine blk_drewN ?_ _ | refine blk_drew ?_ | refine blk_alloc ?_ _)); refine blk_far ?_ NB194_209.out _; (with_reducible repeat (first | refine blk_drewN ?_ _ | refine blk_drew ?_ | refine blk_alloc ?_ _)); refine blk_far ?_ NB194_209.out _; (with_reducible repeat (first | refine blk_drewN ?_ _ | refine blk_drew ?_ | refine blk_alloc ?_ _)); refine blk_far ?_ NB194_209.out _; (with_reducible repeat (first | refine blk_drewN ?_ _ | refine blk_drew ?_ | refine blk_alloc ?_ _)); refine blk_far ?_ NB194_209.out _; (with_reducible repeat (first | refine blk_drewN ?_ _ | refine blk_drew ?_ | refine blk_alloc ?_ _)); refine blk_far ?_ NB194_209.out _; (with_reducible repeat (first | refine blk_drewN ?_ _ | refine blk_drew ?_ | refine blk_alloc ?_ _)); exact BK194.out⟩
                    have n2_ : Aside0 ((((((((w42.setCell ⟨gb209, 0, none⟩ (.int .i64 t201)).setCell ⟨gb209, 1, none⟩ (.int .i64 t202)).setCell ⟨gb209, 2, none⟩ (.int .i64 t203)).setCell ⟨gb209, 3, none⟩ (.int .i64 t204)).setCell ⟨gb209, 4, none⟩ (.int .i64 t205)).setCell ⟨gb209, 5, none⟩ (.int .i64 t206)).setCell ⟨gb209, 6, none⟩ (.int .i64 t207)).heap[gb209]? = some (.cells #[.int .i64 t201, .int .i64 t202, .int .i64 t203, .int .i64 t204, .int .i64 t205, .int .i64 t206, .int .i64 t207] 24 (0, 0))) := ⟨by (with_reducible repeat (first | refine blk_drewN ?_ _ | refine blk_drew ?_ | refine blk_alloc ?_ _)); refine blk_put (cs := #[.int .i64 t201, .int .i64 t202, .int .i64 t203, .int .i64 t204, .int .i64 t205, .int .i64 t206, .int .i64 0]) ?_ 6 _ rfl; (with_reducible repeat (first | refine blk_drewN ?_ _ | refine blk_drew ?_ | refine blk_alloc ?_ _)); refine blk_put (cs := #[.int .i64 t201, .int .i64 t202, .int .i64 t203, .int .i64 t204, .int .i64 t205, .int .i64 0, .int .i64 0]) ?_ 5 _ rfl; (with_reducible repeat (first | refine blk_drewN ?_ _ | refine blk_drew ?_ | refine blk_alloc ?_ _)); refine blk_put (cs := #[.int .i64 t201, .int .i64 t202, .int .i64 t203, .int .i64 t204, .int .i64 0, .int .i64 0, .int .i64 0]) ?_ 4 _ rfl; (with_reducible repeat (first | refine blk_drewN ?_ _ | refine blk_drew ?_ | refine blk_alloc ?_ _)); refine blk_put (cs := #[.int .i64 t201, .int .i64 t202, .int .i64 t203, .int .i64 0, .int .i64 0, .int .i64 0, .int .i64 0]) ?_ 3 _ rfl; (with_reducible repeat (first | refine blk_drewN ?_ _ | refine blk_drew ?_ | refine blk_alloc ?_ _)); refine blk_put (cs := #[.int .i64 t201, .int .i64 t202, .int .i64 0, .int .i64 0, .int .i64 0, .int .i64 0, .int .i64 0]) ?_ 2 _ rfl; (with_reducible repeat (first | refine blk_drewN ?_ _ | refine blk_drew ?_ | refine blk_alloc ?_ _)); refine blk_put (cs := #[.int .i64 t201, .int .i64 0, .int .i64 0, .int .i64 0, .int .i64 0, .int .i64 0, .int .i64 0]) ?_ 1 _ rfl; (with_reducible repeat (first | refine blk_drewN ?_ _ | refine blk_drew ?_ | refine blk_alloc ?_ _)); refine blk_put (cs := #[.int .i64 0, .int .i64 0, .int .i64 0, .int .i64 0, .int .i64 0, .int .i64 0, .int .i64 0]) ?_ 0 _ rfl; (with_reducible repeat (first | refine blk_drewN ?_ _ | refine blk_drew ?_ | refine blk_alloc ?_ _)); exact BK209.out⟩
                    have n3_ : Aside0 (Below w.heap.size w (((((((w42.setCell ⟨gb209, 0, none⟩ (.int .i64 t201)).setCell ⟨gb209, 1, none⟩ (.int .i64 t202)).setCell ⟨gb209, 2, none⟩ (.int .i64 t203)).setCell ⟨gb209, 3, none⟩ (.int .i64 t204)).setCell ⟨gb209, 4, none⟩ (.int .i64 t205)).setCell ⟨gb209, 5, none⟩ (.int .i64 t206)).setCell ⟨gb209, 6, none⟩ (.int .i64 t207))) := ⟨by repeat (first | (with_reducible first | exact HB.out | apply below_alloc | apply pw_below_drewN | apply below_drew1 | refine below_set ?_ GE184.out | refine below_set ?_ GE194.out | refine below_set ?_ GE209.out) | exact HB.out)⟩
                    clear BK184
                    clear BK194
                    clear BK209
                    clear HB
                    (try clear hcz45_0 hcz45_1 hcz45_2 hcz45_3 hcz45_4 hcz45_5 hcz45_6)
                    (try clear hfz45_0 hfz45_1 hfz45_2 hfz45_3 hfz45_4 hfz45_5 hfz45_6)
                    generalize (((((((w42.setCell ⟨gb209, 0, none⟩ (.int .i64 t201)).setCell ⟨gb209, 1, none⟩ (.int .i64 t202)).setCell ⟨gb209, 2, none⟩ (.int .i64 t203)).setCell ⟨gb209, 3, none⟩ (.int .i64 t204)).setCell ⟨gb209, 4, none⟩ (.int .i64 t205)).setCell ⟨gb209, 5, none⟩ (.int .i64 t206)).setCell ⟨gb209, 6, none⟩ (.int .i64 t207)) = w45 at n0_ n1_ n2_ n3_ ⊢
                    have BK184 := n0_
                    have BK194 := n1_
                    have BK209 := n2_
                    have HB := n3_
                    clear n0_ n1_ n2_ n3_
                    obtain ⟨hs197, ht210⟩ := blnF_some A25.out
                    have HT210 := Aside0.mk ht210
                    clear ht210
                    have kb := fun W => print_bytes (P := Tryd.prog) 9 39 5 Tryd.underlying9 Tryd.underlying39 Tryd.underlying5 t197 W
                    go_wp2
                    go_loopw [56] (fun v56 wr => ∃ kk : Nat, kk ≤ t197.size ∧ v56 = .int .i64 kk ∧ Aside0 (CI t197 w45.heap.size 5 kk wr) ∧ Aside0 (Below w45.heap.size w45 wr)) (fun v56 _ => t197.size - (intOf v56).toNat)
                    case atStart => exact ⟨0, Nat.zero_le _, rfl, ⟨CI.start w45 5 t197⟩, ⟨bytes_below (Below.refl _ _) (Nat.le_refl _) 5 t197⟩⟩
                    case round =>
                      obtain ⟨kk, hkk, rfl, HI, HL⟩ := hrel
                      clear kb
                      by_cases hlt : kk < t197.size
                      · obtain ⟨hc, hf⟩ := HI.out.cell hlt
                        obtain ⟨c, hcc⟩ : ∃ c : Int, c = (t197[kk].toNat : Int) := ⟨_, rfl⟩
                        rw [← hcc] at hc
                        have hc0 : 0 ≤ c := by omega
                        have hc1 : c ≤ 255 := by have := t197[kk].toNat_lt; omega
                        have HC := Aside0.mk hcc
                        clear hcc
                        by_cases h1 : c = 45
                        · by_cases h2 : (kk : Int) < 8
                          · have hp : CI t197 w45.heap.size 5 (kk + 1) (wr.setCell ⟨w45.heap.size, kk, none⟩ (.int .u8 32)) := HI.out.put hlt 32 (blnC_hit (h1 ▸ HC.out.symm) (by omega))
                            have HP := Aside0.mk hp
                            clear hp
                            have HB2 := Aside0.mk (HL.out.setCell (p := ⟨w45.heap.size, kk, none⟩) (Nat.le_refl _) (.int .u8 32))
                            have h1b : (c == 45) = true := beq_iff_eq.mpr h1
                            have h2b : decide ((kk : Int) < 8) = true := decide_eq_true h2
                            go_wp2
                            go_roundw
                            case rel => exact ⟨kk + 1, by omega, by go_num, HP, HB2⟩
                            case measure => simp [intOf]; omega
                          · have hp : CI t197 w45.heap.size 5 (kk + 1) wr := HI.out.same hlt (blnC_no (.inr (by omega)))
                            have HP := Aside0.mk hp
                            clear hp
                            have h1b : (c == 45) = true := beq_iff_eq.mpr h1
                            have h2b : decide ((kk : Int) < 8) = false := decide_eq_false h2
                            go_wp2
                            go_roundw
                            case rel => exact ⟨kk + 1, by omega, by go_num, HP, HL⟩
                            case measure => simp [intOf]; omega
                        · have hp : CI t197 w45.heap.size 5 (kk + 1) wr := HI.out.same hlt (blnC_no (.inl (fun e => h1 (HC.out.trans (by rw [e]; rfl)))))
                          have HP := Aside0.mk hp
                          clear hp
                          have h1b : (c == 45) = false := beq_eq_false_iff_ne.mpr h1
                          go_wp2
                          go_roundw
                          case rel => exact ⟨kk + 1, by omega, by go_num, HP, HL⟩
                          case measure => simp [intOf]; omega
                      · obtain rfl : kk = t197.size := by omega
                        have hcv : ∀ c : Nat, (convert 39 9 (.slice (some ⟨w45.heap.size, 0, none⟩) t197.size c)).run Tryd.prog wr = .ok (.string t210) wr := by
                          intro c
                          rw [← HT210.out, ← strOf_map]
                          exact string_of_reads (P := Tryd.prog) Tryd.underlying39 Tryd.underlying5 Tryd.underlying9 (HI.out.reads hs197)
                        have n0_ := Aside0.mk (blk_below BK184.out HL.out)
                        have n1_ := Aside0.mk (blk_below BK194.out HL.out)
                        have n2_ := Aside0.mk (blk_below BK209.out HL.out)
                        have n3_ := Aside0.mk (below_step HB.out HL.out)
                        clear BK184 BK194 BK209 HB HL HI
                        have BK184 := n0_
                        have BK194 := n1_
                        have BK209 := n2_
                        have HB := n3_
                        clear n0_ n1_ n2_ n3_
                        go_wp2_with (first | ((with_reducible refine gate_callee (f := 6) rfl ?_); refine goesL_ (some 75) rfl rfl Tryd.func6 (by kernel_rfl) rfl #[.string t210] rfl (by (try simp only [List.map_toArray, List.map_cons, List.map_nil]); first | done | rfl | (simp only [List.length_drop, List.length_take]; rfl)) ?_; (with_reducible refine (date_Mail.calls t210 t211 t212 t213 t214 t215 t216 t217 t218 _ A26.out).mono ?_); rintro e w47 ⟨rfl, hb⟩; refine ⟨_, rfl, ?_⟩; have n0_ := Aside0.mk (blk_below (g := gb184) (o := .cells #[.int .i64 a0_0, .int .i64 a0_1, .int .i64 a0_2, .int .i64 a0_3, .int .i64 a0_4, .int .i64 a0_5, .int .i64 a0_6] 24 (0, 0)) (by (with_reducible repeat (first | refine blk_drewN ?_ _ | refine blk_drew ?_ | refine blk_alloc ?_ _)); exact BK184.out) hb); have n1_ := Aside0.mk (blk_below (g := gb194) (o := .cells #[.int .i64 t186, .int .i64 t187, .int .i64 t188, .int .i64 t189, .int .i64 t190, .int .i64 t191, .int .i64 t192] 24 (0, 0)) (by (with_reducible repeat (first | refine blk_drewN ?_ _ | refine blk_drew ?_ | refine blk_alloc ?_ _)); exact BK194.out) hb); have n2_ := Aside0.mk (blk_below (g := gb209) (o := .cells #[.int .i64 t201, .int .i64 t202, .int .i64 t203, .int .i64 t204, .int .i64 t205, .int .i64 t206, .int .i64 t207] 24 (0, 0)) (by (with_reducible repeat (first | refine blk_drewN ?_ _ | refine blk_drew ?_ | refine blk_alloc ?_ _)); exact BK209.out) hb); have n3_ := Aside0.mk (below_step (by repeat (first | (with_reducible first | exact HB.out | apply below_alloc | apply pw_below_drewN | apply below_drew1 | refine below_set ?_ GE184.out | refine below_set ?_ GE194.out | refine below_set ?_ GE209.out) | exact HB.out)) hb); clear BK184; clear BK194; clear BK209; clear HB; have BK184 := n0_; have BK194 := n1_; have BK209 := n2_; have HB := n3_; clear n0_ n1_ n2_ n3_; (try clear hb); (try clear hb2); (try clear hk); (try clear hi)) | ((with_reducible refine gate_dst (N := 12) rfl ?_); refine box_event ?hg (N := 12) ?hd (cs := #[.int .i64 0, .int .i64 0, .int .i64 0, .int .i64 0, .int .i64 0, .int .i64 0, .int .i64 0]) (t := 24) ?hr ?_; (case hd => rfl); (case hg => rfl); (case hr => first | (go_simp; done) | (go_simp; rfl)); intro gb219 hg w48 hbox hb; have n0_ := Aside0.mk (blk_below (g := gb184) (o := .cells #[.int .i64 a0_0, .int .i64 a0_1, .int .i64 a0_2, .int .i64 a0_3, .int .i64 a0_4, .int .i64 a0_5, .int .i64 a0_6] 24 (0, 0)) (by (with_reducible repeat (first | refine blk_drewN ?_ _ | refine blk_drew ?_ | refine blk_alloc ?_ _)); exact BK184.out) hb); have n1_ := Aside0.mk (blk_below (g := gb194) (o := .cells #[.int .i64 t186, .int .i64 t187, .int .i64 t188, .int .i64 t189, .int .i64 t190, .int .i64 t191, .int .i64 t192] 24 (0, 0)) (by (with_reducible repeat (first | refine blk_drewN ?_ _ | refine blk_drew ?_ | refine blk_alloc ?_ _)); exact BK194.out) hb); have n2_ := Aside0.mk (blk_below (g := gb209) (o := .cells #[.int .i64 t201, .int .i64 t202, .int .i64 t203, .int .i64 t204, .int .i64 t205, .int .i64 t206, .int .i64 t207] 24 (0, 0)) (by (with_reducible repeat (first | refine blk_drewN ?_ _ | refine blk_drew ?_ | refine blk_alloc ?_ _)); exact BK209.out) hb); have n3_ := Aside0.mk (below_step (by repeat (first | (with_reducible first | exact HB.out | apply below_alloc | apply pw_below_drewN | apply below_drew1 | refine below_set ?_ GE184.out | refine below_set ?_ GE194.out | refine below_set ?_ GE209.out) | exact HB.out)) hb); have n4_ := Aside0.mk (hbox); have n5_ := Aside0.mk ((by rw [hg]; exact (below_size (by repeat (first | (with_reducible first | exact HB.out | apply below_alloc | apply pw_below_drewN | apply below_drew1 | refine below_set ?_ GE184.out | refine below_set ?_ GE194.out | refine below_set ?_ GE209.out) | exact HB.out))) : w.heap.size ≤ gb219)); have n6_ := Aside0.mk ((by rw [hg]; exact (below_size (by repeat (first | (with_reducible first | exact HB.out | apply below_alloc | apply pw_below_drewN | apply below_drew1 | refine below_set ?_ GE184.out | refine below_set ?_ GE194.out | refine below_set ?_ GE209.out) | exact HB.out))) : w.heap.size ≤ gb219)); have n7_ := Aside0.mk ((by rw [hg]; exact Nat.ne_of_lt (blk_lt (g := gb184) (o := .cells #[.int .i64 a0_0, .int .i64 a0_1, .int .i64 a0_2, .int .i64 a0_3, .int .i64 a0_4, .int .i64 a0_5, .int .i64 a0_6] 24 (0, 0)) (by (with_reducible repeat (first | refine blk_drewN ?_ _ | refine blk_drew ?_ | refine blk_alloc ?_ _)); exact BK184.out)) : gb184 ≠ gb219)); have n8_ := Aside0.mk ((by rw [hg]; exact Nat.ne_of_gt (blk_lt (g := gb184) (o := .cells #[.int .i64 a0_0, .int .i64 a0_1, .int .i64 a0_2, .int .i64 a0_3, .int .i64 a0_4, .int .i64 a0_5, .int .i64 a0_6] 24 (0, 0)) (by (with_reducible repeat (first | refine blk_drewN ?_ _ | refine blk_drew ?_ | refine blk_alloc ?_ _)); exact BK184.out)) : gb219 ≠ gb184)); have n9_ := Aside0.mk ((by rw [hg]; exact Nat.ne_of_lt (blk_lt (g := gb194) (o := .cells #[.int .i64 t186, .int .i64 t187, .int .i64 t188, .int .i64 t189, .int .i64 t190, .int .i64 t191, .int .i64 t192] 24 (0, 0)) (by (with_reducible repeat (first | refine blk_drewN ?_ _ | refine blk_drew ?_ | refine blk_alloc ?_ _)); exact BK194.out)) : gb194 ≠ gb219)); have n10_ := Aside0.mk ((by rw [hg]; exact Nat.ne_of_gt (blk_lt (g := gb194) (o := .cells #[.int .i64 t186, .int .i64 t187, .int .i64 t188, .int .i64 t189, .int .i64 t190, .int .i64 t191, .int .i64 t192] 24 (0, 0)) (by (with_reducible repeat (first | refine blk_drewN ?_ _ | refine blk_drew ?_ | refine blk_alloc ?_ _)); exact BK194.out)) : gb219 ≠ gb194)); have n11_ := Aside0.mk ((by rw [hg]; exact Nat.ne_of_lt (blk_lt (g := gb209) (o := .cells #[.int .i64 t201, .int .i64 t202, .int .i64 t203, .int .i64 t204, .int .i64 t205, .int .i64 t206, .int .i64 t207] 24 (0, 0)) (by (with_reducible repeat (first | refine blk_drewN ?_ _ | refine blk_drew ?_ | refine blk_alloc ?_ _)); exact BK209.out)) : gb209 ≠ gb219)); have n12_ := Aside0.mk ((by rw [hg]; exact Nat.ne_of_gt (blk_lt (g := gb209) (o := .cells #[.int .i64 t201, .int .i64 t202, .int .i64 t203, .int .i64 t204, .int .i64 t205, .int .i64 t206, .int .i64 t207] 24 (0, 0)) (by (with_reducible repeat (first | refine blk_drewN ?_ _ | refine blk_drew ?_ | refine blk_alloc ?_ _)); exact BK209.out)) : gb219 ≠ gb209)); clear BK184; clear BK194; clear BK209; clear HB; have BK184 := n0_; have BK194 := n1_; have BK209 := n2_; have HB := n3_; have BK219 := n4_; have GW219 := n5_; have GE219 := n6_; have NB184_219 := n7_; have NB219_184 := n8_; have NB194_219 := n9_; have NB219_194 := n10_; have NB209_219 := n11_; have NB219_209 := n12_; clear n0_ n1_ n2_ n3_ n4_ n5_ n6_ n7_ n8_ n9_ n10_ n11_ n12_; clear hb hbox hg; have hnb49 := NB219_184.out; have hnc49 := NB184_219.out; have hnb50 := NB219_194.out; have hnc50 := NB194_219.out; have hnb51 := NB219_209.out; have hnc51 := NB209_219.out; have hcz52_0 : w48.cell? ⟨gb219, 0, none⟩ = some (.int .i64 0) := (blk_cell BK219.out 0).trans rfl; have hcz52_1 : w48.cell? ⟨gb219, 1, none⟩ = some (.int .i64 0) := (blk_cell BK219.out 1).trans rfl; have hcz52_2 : w48.cell? ⟨gb219, 2, none⟩ = some (.int .i64 0) := (blk_cell BK219.out 2).trans rfl; have hcz52_3 : w48.cell? ⟨gb219, 3, none⟩ = some (.int .i64 0) := (blk_cell BK219.out 3).trans rfl; have hcz52_4 : w48.cell? ⟨gb219, 4, none⟩ = some (.int .i64 0) := (blk_cell BK219.out 4).trans rfl; have hcz52_5 : w48.cell? ⟨gb219, 5, none⟩ = some (.int .i64 0) := (blk_cell BK219.out 5).trans rfl; have hcz52_6 : w48.cell? ⟨gb219, 6, none⟩ = some (.int .i64 0) := (blk_cell BK219.out 6).trans rfl; have hfz52_0 := blk_frozen BK219.out 0; have hfz52_1 := blk_frozen BK219.out 1; have hfz52_2 := blk_frozen BK219.out 2; have hfz52_3 := blk_frozen BK219.out 3; have hfz52_4 := blk_frozen BK219.out 4; have hfz52_5 := blk_frozen BK219.out 5; have hfz52_6 := blk_frozen BK219.out 6))
                        have n0_ : Aside0 ((((((((w48.setCell ⟨gb219, 0, none⟩ (.int .i64 t211)).setCell ⟨gb219, 1, none⟩ (.int .i64 t212)).setCell ⟨gb219, 2, none⟩ (.int .i64 t213)).setCell ⟨gb219, 3, none⟩ (.int .i64 t214)).setCell ⟨gb219, 4, none⟩ (.int .i64 t215)).setCell ⟨gb219, 5, none⟩ (.int .i64 t216)).setCell ⟨gb219, 6, none⟩ (.int .i64 t217)).heap[gb184]? = some (.cells #[.int .i64 a0_0, .int .i64 a0_1, .int .i64 a0_2, .int .i64 a0_3, .int .i64 a0_4, .int .i64 a0_5, .int .i64 a0_6] 24 (0, 0))) := ⟨by (with_reducible repeat (first | refine blk_drewN ?_ _ | refine blk_drew ?_ | refine blk_alloc ?_ _)); refine blk_far ?_ NB184_219.out _; (with_reducible repeat (first | refine blk_drewN ?_ _ | refine blk_drew ?_ | refine blk_alloc ?_ _)); refine blk_far ?_ NB184_219.out _; (with_reducible repeat (first | refine blk_drewN ?_ _ | refine blk_drew ?_ | refine blk_alloc ?_ _)); refine blk_far ?_ NB184_219.out _; (with_reducible repeat (first | refine blk_drewN ?_ _ | refine blk_drew ?_ | refine blk_alloc ?_ _)); refine blk_far ?_ NB184_219.out _; (with_reducible repeat (first | refine blk_drewN ?_ _ | refine blk_drew ?_ | refine blk_alloc ?_ _)); refine blk_far ?_ NB184_219.out _; (with_reducible repeat (first | refine blk_drewN ?_ _ | refine blk_drew ?_ | refine blk_alloc ?_ _)); refine blk_far ?_ NB184_219.out _; (with_reducible repeat (first | refine blk_drewN ?_ _ | refine blk_drew ?_ | refine blk_alloc ?_ _)); refine blk_far ?_ NB184_219.out _; (with_reducible repeat (first | refine blk_drewN ?_ _ | refine blk_drew ?_ | refine blk_alloc ?_ _)); exact BK184.out⟩
                        have n1_ : Aside0 ((((((((w48.setCell ⟨gb219, 0, none⟩ (.int .i64 t211)).setCell ⟨gb219, 1, none⟩ (.int .i64 t212)).setCell ⟨gb219, 2, none⟩ (.int .i64 t213)).setCell ⟨gb219, 3, none⟩ (.int .i64 t214)).setCell ⟨gb219, 4, none⟩ (.int .i64 t215)).setCell ⟨gb219, 5, none⟩ (.int .i64 t216)).setCell ⟨gb219, 6, none⟩ (.int .i64 t217)).heap[gb194]? = some (.cells #[.int .i64 t186, .int .i64 t187, .int .i64 t188, .int .i64 t189, .int .i64 t190, .int .i64 t191, .int .i64 t192] 24 (0, 0))) := ⟨by (with_reducible repeat (first | refine blk_drewN ?_ _ | refine blk_drew ?_ | refine blk_alloc ?_ _)); refine blk_far ?_ NB194_219.out _; (with_reducible repeat (first | refine blk_drewN ?_ _ | refine blk_drew ?_ | refine blk_alloc ?_ _)); refine blk_far ?_ NB194_219.out _; (with_reducible repeat (first | refine blk_drewN ?_ _ | refine blk_drew ?_ | refine blk_alloc ?_ _)); refine blk_far ?_ NB194_219.out _; (with_reducible repeat (first | refine blk_drewN ?_ _ | refine blk_drew ?_ | refine blk_alloc ?_ _)); refine blk_far ?_ NB194_219.out _; (with_reducible repeat (first | refine blk_drewN ?_ _ | refine blk_drew ?_ | refine blk_alloc ?_ _)); refine blk_far ?_ NB194_219.out _; (with_reducible repeat (first | refine blk_drewN ?_ _ | refine blk_drew ?_ | refine blk_alloc ?_ _)); refine blk_far ?_ NB194_219.out _; (with_reducible repeat (first | refine blk_drewN ?_ _ | refine blk_drew ?_ | refine blk_alloc ?_ _)); refine blk_far ?_ NB194_219.out _; (with_reducible repeat (first | refine blk_drewN ?_ _ | refine blk_drew ?_ | refine blk_alloc ?_ _)); exact BK194.out⟩
                        have n2_ : Aside0 ((((((((w48.setCell ⟨gb219, 0, none⟩ (.int .i64 t211)).setCell ⟨gb219, 1, none⟩ (.int .i64 t212)).setCell ⟨gb219, 2, none⟩ (.int .i64 t213)).setCell ⟨gb219, 3, none⟩ (.int .i64 t214)).setCell ⟨gb219, 4, none⟩ (.int .i64 t215)).setCell ⟨gb219, 5, none⟩ (.int .i64 t216)).setCell ⟨gb219, 6, none⟩ (.int .i64 t217)).heap[gb209]? = some (.cells #[.int .i64 t201, .int .i64 t202, .int .i64 t203, .int .i64 t204, .int .i64 t205, .int .i64 t206, .int .i64 t207] 24 (0, 0))) := ⟨by (with_reducible repeat (first | refine blk_drewN ?_ _ | refine blk_drew ?_ | refine blk_alloc ?_ _)); refine blk_far ?_ NB209_219.out _; (with_reducible repeat (first | refine blk_drewN ?_ _ | refine blk_drew ?_ | refine blk_alloc ?_ _)); refine blk_far ?_ NB209_219.out _; (with_reducible repeat (first | refine blk_drewN ?_ _ | refine blk_drew ?_ | refine blk_alloc ?_ _)); refine blk_far ?_ NB209_219.out _; (with_reducible repeat (first | refine blk_drewN ?_ _ | refine blk_drew ?_ | refine blk_alloc ?_ _)); refine blk_far ?_ NB209_219.out _; (with_reducible repeat (first | refine blk_drewN ?_ _ | refine blk_drew ?_ | refine blk_alloc ?_ _)); refine blk_far ?_ NB209_219.out _; (with_reducible repeat (first | refine blk_drewN ?_ _ | refine blk_drew ?_ | refine blk_alloc ?_ _)); refine blk_far ?_ NB209_219.out _; (with_reducible repeat (first | refine blk_drewN ?_ _ | refine blk_drew ?_ | refine blk_alloc ?_ _)); refine blk_far ?_ NB209_219.out _; (with_reducible repeat (first | refine blk_drewN ?_ _ | refine blk_drew ?_ | refine blk_alloc ?_ _)); exact BK209.out⟩
                        have n3_ : Aside0 ((((((((w48.setCell ⟨gb219, 0, none⟩ (.int .i64 t211)).setCell ⟨gb219, 1, none⟩ (.int .i64 t212)).setCell ⟨gb219, 2, none⟩ (.int .i64 t213)).setCell ⟨gb219, 3, none⟩ (.int .i64 t214)).setCell ⟨gb219, 4, none⟩ (.int .i64 t215)).setCell ⟨gb219, 5, none⟩ (.int .i64 t216)).setCell ⟨gb219, 6, none⟩ (.int .i64 t217)).heap[gb219]? = some (.cells #[.int .i64 t211, .int .i64 t212, .int .i64 t213, .int .i64 t214, .int .i64 t215, .int .i64 t216, .int .i64 t217] 24 (0, 0))) := ⟨by (with_reducible repeat (first | refine blk_drewN ?_ _ | refine blk_drew ?_ | refine blk_alloc ?_ _)); refine blk_put (cs := #[.int .i64 t211, .int .i64 t212, .int .i64 t213, .int .i64 t214, .int .i64 t215, .int .i64 t216, .int .i64 0]) ?_ 6 _ rfl; (with_reducible repeat (first | refine blk_drewN ?_ _ | refine blk_drew ?_ | refine blk_alloc ?_ _)); refine blk_put (cs := #[.int .i64 t211, .int .i64 t212, .int .i64 t213, .int .i64 t214, .int .i64 t215, .int .i64 0, .int .i64 0]) ?_ 5 _ rfl; (with_reducible repeat (first | refine blk_drewN ?_ _ | refine blk_drew ?_ | refine blk_alloc ?_ _)); refine blk_put (cs := #[.int .i64 t211, .int .i64 t212, .int .i64 t213, .int .i64 t214, .int .i64 0, .int .i64 0, .int .i64 0]) ?_ 4 _ rfl; (with_reducible repeat (first | refine blk_drewN ?_ _ | refine blk_drew ?_ | refine blk_alloc ?_ _)); refine blk_put (cs := #[.int .i64 t211, .int .i64 t212, .int .i64 t213, .int .i64 0, .int .i64 0, .int .i64 0, .int .i64 0]) ?_ 3 _ rfl; (with_reducible repeat (first | refine blk_drewN ?_ _ | refine blk_drew ?_ | refine blk_alloc ?_ _)); refine blk_put (cs := #[.int .i64 t211, .int .i64 t212, .int .i64 0, .int .i64 0, .int .i64 0, .int .i64 0, .int .i64 0]) ?_ 2 _ rfl; (with_reducible repeat (first | refine blk_drewN ?_ _ | refine blk_drew ?_ | refine blk_alloc ?_ _)); refine blk_put (cs := #[.int .i64 t211, .int .i64 0, .int .i64 0, .int .i64 0, .int .i64 0, .int .i64 0, .int .i64 0]) ?_ 1 _ rfl; (with_reducible repeat (first | refine blk_drewN ?_ _ | refine blk_drew ?_ | refine blk_alloc ?_ _)); refine blk_put (cs := #[.int .i64 0, .int .i64 0, .int .i64 0, .int .i64 0, .int .i64 0, .int .i64 0, .int .i64 0]) ?_ 0 _ rfl; (with_reducible repeat (first | refine blk_drewN ?_ _ | refine blk_drew ?_ | refine blk_alloc ?_ _)); exact BK219.out⟩
                        have n4_ : Aside0 (Below w.heap.size w (((((((w48.setCell ⟨gb219, 0, none⟩ (.int .i64 t211)).setCell ⟨gb219, 1, none⟩ (.int .i64 t212)).setCell ⟨gb219, 2, none⟩ (.int .i64 t213)).setCell ⟨gb219, 3, none⟩ (.int .i64 t214)).setCell ⟨gb219, 4, none⟩ (.int .i64 t215)).setCell ⟨gb219, 5, none⟩ (.int .i64 t216)).setCell ⟨gb219, 6, none⟩ (.int .i64 t217))) := ⟨by repeat (first | (with_reducible first | exact HB.out | apply below_alloc | apply pw_below_drewN | apply below_drew1 | refine below_set ?_ GE184.out | refine below_set ?_ GE194.out | refine below_set ?_ GE209.out | refine below_set ?_ GE219.out) | exact HB.out)⟩
                        (try clear BK184)
                        (try clear BK194)
                        (try clear BK209)
                        (try clear BK219)
                        (try clear HB)
                        generalize (((((((w48.setCell ⟨gb219, 0, none⟩ (.int .i64 t211)).setCell ⟨gb219, 1, none⟩ (.int .i64 t212)).setCell ⟨gb219, 2, none⟩ (.int .i64 t213)).setCell ⟨gb219, 3, none⟩ (.int .i64 t214)).setCell ⟨gb219, 4, none⟩ (.int .i64 t215)).setCell ⟨gb219, 5, none⟩ (.int .i64 t216)).setCell ⟨gb219, 6, none⟩ (.int .i64 t217)) = w53 at n0_ n1_ n2_ n3_ n4_ ⊢
                        have BK184 := n0_
                        have BK194 := n1_
                        have BK209 := n2_
                        have BK219 := n3_
                        have HB := n4_
                        clear n0_ n1_ n2_ n3_ n4_
                        have n0_ := Aside0.mk (blk_drew BK184.out)
                        have n1_ := Aside0.mk (blk_drew BK194.out)
                        have n2_ := Aside0.mk (blk_drew BK209.out)
                        have n3_ := Aside0.mk (blk_drew BK219.out)
                        have n4_ := Aside0.mk (below_drew1 HB.out)
                        clear BK184
                        clear BK194
                        clear BK209
                        clear BK219
                        clear HB
                        have BK184 := n0_
                        have BK194 := n1_
                        have BK209 := n2_
                        have BK219 := n3_
                        have HB := n4_
                        clear n0_ n1_ n2_ n3_ n4_
                        refine start_ (n := 29) (S := fun w' => w'.cell? ⟨gb209, 0, none⟩ = some (.int .i64 t201) ∧ w'.cell? ⟨gb209, 1, none⟩ = some (.int .i64 t202) ∧ w'.cell? ⟨gb209, 2, none⟩ = some (.int .i64 t203) ∧ w'.cell? ⟨gb209, 3, none⟩ = some (.int .i64 t204) ∧ w'.cell? ⟨gb209, 4, none⟩ = some (.int .i64 t205) ∧ w'.cell? ⟨gb209, 5, none⟩ = some (.int .i64 t206) ∧ w'.cell? ⟨gb209, 6, none⟩ = some (.int .i64 t207) ∧ w'.cell? ⟨gb184, 0, none⟩ = some (.int .i64 a0_0) ∧ w'.cell? ⟨gb184, 1, none⟩ = some (.int .i64 a0_1) ∧ w'.cell? ⟨gb184, 2, none⟩ = some (.int .i64 a0_2) ∧ w'.cell? ⟨gb184, 3, none⟩ = some (.int .i64 a0_3) ∧ w'.cell? ⟨gb184, 4, none⟩ = some (.int .i64 a0_4) ∧ w'.cell? ⟨gb184, 5, none⟩ = some (.int .i64 a0_5) ∧ w'.cell? ⟨gb184, 6, none⟩ = some (.int .i64 a0_6) ∧ w'.cell? ⟨gb219, 0, none⟩ = some (.int .i64 t211) ∧ w'.cell? ⟨gb219, 1, none⟩ = some (.int .i64 t212) ∧ w'.cell? ⟨gb219, 2, none⟩ = some (.int .i64 t213) ∧ w'.cell? ⟨gb219, 3, none⟩ = some (.int .i64 t214) ∧ w'.cell? ⟨gb219, 4, none⟩ = some (.int .i64 t215) ∧ w'.cell? ⟨gb219, 5, none⟩ = some (.int .i64 t216) ∧ w'.cell? ⟨gb219, 6, none⟩ = some (.int .i64 t217)) (ds := []) #[false, false, false, false, false, false, false, false, false, false, false, false, false, false, false, false, false, false, false, false, false, false, false, false, false, false, false, false, false] (by kernel_rfl) rfl rfl ⟨(blk_cell BK209.out 0).trans rfl, (blk_cell BK209.out 1).trans rfl, (blk_cell BK209.out 2).trans rfl, (blk_cell BK209.out 3).trans rfl, (blk_cell BK209.out 4).trans rfl, (blk_cell BK209.out 5).trans rfl, (blk_cell BK209.out 6).trans rfl, (blk_cell BK184.out 0).trans rfl, (blk_cell BK184.out 1).trans rfl, (blk_cell BK184.out 2).trans rfl, (blk_cell BK184.out 3).trans rfl, (blk_cell BK184.out 4).trans rfl, (blk_cell BK184.out 5).trans rfl, (blk_cell BK184.out 6).trans rfl, (blk_cell BK219.out 0).trans rfl, (blk_cell BK219.out 1).trans rfl, (blk_cell BK219.out 2).trans rfl, (blk_cell BK219.out 3).trans rfl, (blk_cell BK219.out 4).trans rfl, (blk_cell BK219.out 5).trans rfl, (blk_cell BK219.out 6).trans rfl⟩ (fun hHeld => ?_); refine with_tabW haversacklaw09_DateBack.tab18 haversacklaw09_DateBack.bits18 (fun HT_ HW_ => ?_)
                        generalize w53.drew = w54 at BK184 BK194 BK209 BK219 HB hHeld ⊢
                        refine pure_ (i := 0) (N := some 78) (v := ?_) (a' := ?_) #[true, false, false, false, false, false, false, false, false, false, false, false, false, false, false, false, false, false, false, false, false, false, false, false, false, false, false, false, false] rfl rfl (any_of HT_.out (by kernel_rfl)) (fun _ _ _ h => h) (Or.inl ⟨by rfl, ?_⟩) ?_ ?_
                        rotate_left
                        · intro w'
                          go_simp
                          with_reducible rfl
                        rotate_left
                        · simp only [Act.put, List.setIfInBounds_toArray, List.set_cons_zero, List.set_cons_succ, i64_w, i32_w]
                          rfl
                        refine pure_ (i := 2) (N := some 80) (v := ?_) (a' := ?_) #[true, false, true, false, false, false, false, false, false, false, false, false, false, false, false, false, false, false, false, false, false, false, false, false, false, false, false, false, false] rfl rfl (any_of HT_.out (by kernel_rfl)) (fun _ _ _ h => h) (Or.inl ⟨by rfl, ?_⟩) ?_ ?_
                        rotate_left
                        · intro w'
                          go_simp
                          with_reducible rfl
                        rotate_left
                        · simp only [Act.put, List.setIfInBounds_toArray, List.set_cons_zero, List.set_cons_succ, i64_w, i32_w]
                          rfl
                        refine one_ (i := 1) (N := some 79) #[true, true, true, false, false, false, false, false, false, false, false, false, false, false, false, false, false, false, false, false, false, false, false, false, false, false, false, false, false] rfl rfl (one_of HT_.out (by kernel_rfl)) (by decide) (fun K hK => ?_)
                        refine goes_ Tryd.func10 (by kernel_rfl) rfl #[.int .i64 t208] (by rfl) rfl rfl (by (try simp only [List.map_toArray, List.map_cons, List.map_nil]); first | done | rfl | (simp only [List.length_drop, List.length_take]; rfl)) ?_
                        with_reducible refine (haversacklaw09_no.calls t208 t220 _ A27.out).mono ?_
                        rintro e w' ⟨rfl, ⟨nd, rfl⟩⟩
                        refine ⟨_, rfl, ?_⟩
                        refine hK.out _ _ ⟨(blk_cell BK209.out 0).trans rfl, (blk_cell BK209.out 1).trans rfl, (blk_cell BK209.out 2).trans rfl, (blk_cell BK209.out 3).trans rfl, (blk_cell BK209.out 4).trans rfl, (blk_cell BK209.out 5).trans rfl, (blk_cell BK209.out 6).trans rfl, (blk_cell BK184.out 0).trans rfl, (blk_cell BK184.out 1).trans rfl, (blk_cell BK184.out 2).trans rfl, (blk_cell BK184.out 3).trans rfl, (blk_cell BK184.out 4).trans rfl, (blk_cell BK184.out 5).trans rfl, (blk_cell BK184.out 6).trans rfl, (blk_cell BK219.out 0).trans rfl, (blk_cell BK219.out 1).trans rfl, (blk_cell BK219.out 2).trans rfl, (blk_cell BK219.out 3).trans rfl, (blk_cell BK219.out 4).trans rfl, (blk_cell BK219.out 5).trans rfl, (blk_cell BK219.out 6).trans rfl⟩ (fun hHeld => ?_)
                        clear hK K
                        refine norm_ (a' := ?_) ?_ ?_
                        rotate_left
                        · show Act.put _ (some 79) _ = _
                          simp only [Act.put, List.setIfInBounds_toArray, List.set_cons_zero, List.set_cons_succ, i64_w, i32_w]
                          rfl
                        refine one_ (i := 3) (N := some 81) #[true, true, true, true, false, false, false, false, false, false, false, false, false, false, false, false, false, false, false, false, false, false, false, false, false, false, false, false, false] rfl rfl (one_of HT_.out (by kernel_rfl)) (by decide) (fun K hK => ?_)
                        refine goes_ Tryd.func10 (by kernel_rfl) rfl #[.int .i64 t218] (by rfl) rfl rfl (by (try simp only [List.map_toArray, List.map_cons, List.map_nil]); first | done | rfl | (simp only [List.length_drop, List.length_take]; rfl)) ?_
                        with_reducible refine (haversacklaw09_no.calls t218 t221 _ A28.out).mono ?_
                        rintro e w' ⟨rfl, ⟨nd, rfl⟩⟩
                        refine ⟨_, rfl, ?_⟩
                        refine hK.out _ _ ⟨(blk_cell BK209.out 0).trans rfl, (blk_cell BK209.out 1).trans rfl, (blk_cell BK209.out 2).trans rfl, (blk_cell BK209.out 3).trans rfl, (blk_cell BK209.out 4).trans rfl, (blk_cell BK209.out 5).trans rfl, (blk_cell BK209.out 6).trans rfl, (blk_cell BK184.out 0).trans rfl, (blk_cell BK184.out 1).trans rfl, (blk_cell BK184.out 2).trans rfl, (blk_cell BK184.out 3).trans rfl, (blk_cell BK184.out 4).trans rfl, (blk_cell BK184.out 5).trans rfl, (blk_cell BK184.out 6).trans rfl, (blk_cell BK219.out 0).trans rfl, (blk_cell BK219.out 1).trans rfl, (blk_cell BK219.out 2).trans rfl, (blk_cell BK219.out 3).trans rfl, (blk_cell BK219.out 4).trans rfl, (blk_cell BK219.out 5).trans rfl, (blk_cell BK219.out 6).trans rfl⟩ (fun hHeld => ?_)
                        clear hK K
                        refine norm_ (a' := ?_) ?_ ?_
                        rotate_left
                        · show Act.put _ (some 81) _ = _
                          simp only [Act.put, List.setIfInBounds_toArray, List.set_cons_zero, List.set_cons_succ, i64_w, i32_w]
                          rfl
                        refine pure_ (i := 4) (N := some 82) (v := ?_) (a' := ?_) #[true, true, true, true, true, false, false, false, false, false, false, false, false, false, false, false, false, false, false, false, false, false, false, false, false, false, false, false, false] rfl rfl (any_of HT_.out (by kernel_rfl)) (fun _ _ _ h => h) (Or.inl ⟨by rfl, ?_⟩) ?_ ?_
                        rotate_left
                        · intro w'
                          go_simp
                          with_reducible rfl
                        rotate_left
                        · simp only [Act.put, List.setIfInBounds_toArray, List.set_cons_zero, List.set_cons_succ, i64_w, i32_w]
                          rfl
                        refine pure_ (i := 5) (N := some 83) (v := ?_) (a' := ?_) #[true, true, true, true, true, true, false, false, false, false, false, false, false, false, false, false, false, false, false, false, false, false, false, false, false, false, false, false, false] rfl rfl (any_of HT_.out (by kernel_rfl)) (fun _ _ _ h => h) (Or.inl ⟨by rfl, ?_⟩) ?_ ?_
                        rotate_left
                        · intro w'
                          go_simp
                          with_reducible rfl
                        rotate_left
                        · simp only [Act.put, List.setIfInBounds_toArray, List.set_cons_zero, List.set_cons_succ, i64_w, i32_w]
                          rfl
                        refine pure_ (i := 6) (N := some 84) (v := ?_) (a' := ?_) #[true, true, true, true, true, true, true, false, false, false, false, false, false, false, false, false, false, false, false, false, false, false, false, false, false, false, false, false, false] rfl rfl (any_of HT_.out (by kernel_rfl)) (fun _ _ _ h => h) (Or.inl ⟨by rfl, ?_⟩) ?_ ?_
                        rotate_left
                        · intro w'
                          go_simp
                          with_reducible rfl
                        rotate_left
                        · simp only [Act.put, List.setIfInBounds_toArray, List.set_cons_zero, List.set_cons_succ, i64_w, i32_w]
                          rfl
                        refine take_ (i := 7) (N := some 85) (v := ?_) (a' := ?_) #[true, true, true, true, true, true, true, true, false, false, false, false, false, false, false, false, false, false, false, false, false, false, false, false, false, false, false, false, false] rfl rfl (take_ofW HT_.out HW_.out (by kernel_rfl)) (fun _ _ _ h => h) (Or.inl ⟨by rfl, ?_⟩) hHeld ?_ ?_
                        rotate_left
                        · rintro w' ⟨s0, s1, s2, s3, s4, s5, s6, s7, s8, s9, s10, s11, s12, s13, s14, s15, s16, s17, s18, s19, s20⟩
                          go_simp
                          with_reducible rfl
                        rotate_left
                        · simp only [Act.put, List.setIfInBounds_toArray, List.set_cons_zero, List.set_cons_succ, i64_w, i32_w]
                          rfl
                        refine take_ (i := 8) (N := some 86) (v := ?_) (a' := ?_) #[true, true, true, true, true, true, true, true, true, false, false, false, false, false, false, false, false, false, false, false, false, false, false, false, false, false, false, false, false] rfl rfl (take_ofW HT_.out HW_.out (by kernel_rfl)) (fun _ _ _ h => h) (Or.inl ⟨by rfl, ?_⟩) hHeld ?_ ?_
                        rotate_left
                        · rintro w' ⟨s0, s1, s2, s3, s4, s5, s6, s7, s8, s9, s10, s11, s12, s13, s14, s15, s16, s17, s18, s19, s20⟩
                          go_simp
                          with_reducible rfl
                        rotate_left
                        · simp only [Act.put, List.setIfInBounds_toArray, List.set_cons_zero, List.set_cons_succ, i64_w, i32_w]
                          rfl
                        refine pure_ (i := 9) (N := some 87) (v := ?_) (a' := ?_) #[true, true, true, true, true, true, true, true, true, true, false, false, false, false, false, false, false, false, false, false, false, false, false, false, false, false, false, false, false] rfl rfl (any_of HT_.out (by kernel_rfl)) (fun _ _ _ h => h) (Or.inl ⟨by rfl, ?_⟩) ?_ ?_
                        rotate_left
                        · intro w'
                          go_simp
                          with_reducible rfl
                        rotate_left
                        · simp only [Act.put, List.setIfInBounds_toArray, List.set_cons_zero, List.set_cons_succ, i64_w, i32_w]
                          rfl
                        refine pure_ (i := 10) (N := some 88) (v := ?_) (a' := ?_) #[true, true, true, true, true, true, true, true, true, true, true, false, false, false, false, false, false, false, false, false, false, false, false, false, false, false, false, false, false] rfl rfl (any_of HT_.out (by kernel_rfl)) (fun _ _ _ h => h) (Or.inl ⟨by rfl, ?_⟩) ?_ ?_
                        rotate_left
                        · intro w'
                          go_simp
                          with_reducible rfl
                        rotate_left
                        · simp only [Act.put, List.setIfInBounds_toArray, List.set_cons_zero, List.set_cons_succ, i64_w, i32_w]
                          rfl
                        refine pure_ (i := 11) (N := some 89) (v := ?_) (a' := ?_) #[true, true, true, true, true, true, true, true, true, true, true, true, false, false, false, false, false, false, false, false, false, false, false, false, false, false, false, false, false] rfl rfl (any_of HT_.out (by kernel_rfl)) (fun _ _ _ h => h) (Or.inl ⟨by rfl, ?_⟩) ?_ ?_
                        rotate_left
                        · intro w'
                          go_simp
                          with_reducible rfl
                        rotate_left
                        · simp only [Act.put, List.setIfInBounds_toArray, List.set_cons_zero, List.set_cons_succ, i64_w, i32_w]
                          rfl
                        refine take_ (i := 12) (N := some 90) (v := ?_) (a' := ?_) #[true, true, true, true, true, true, true, true, true, true, true, true, true, false, false, false, false, false, false, false, false, false, false, false, false, false, false, false, false] rfl rfl (take_ofW HT_.out HW_.out (by kernel_rfl)) (fun _ _ _ h => h) (Or.inl ⟨by rfl, ?_⟩) hHeld ?_ ?_
                        rotate_left
                        · rintro w' ⟨s0, s1, s2, s3, s4, s5, s6, s7, s8, s9, s10, s11, s12, s13, s14, s15, s16, s17, s18, s19, s20⟩
                          go_simp
                          with_reducible rfl
                        rotate_left
                        · simp only [Act.put, List.setIfInBounds_toArray, List.set_cons_zero, List.set_cons_succ, i64_w, i32_w]
                          rfl
                        refine take_ (i := 13) (N := some 91) (v := ?_) (a' := ?_) #[true, true, true, true, true, true, true, true, true, true, true, true, true, true, false, false, false, false, false, false, false, false, false, false, false, false, false, false, false] rfl rfl (take_ofW HT_.out HW_.out (by kernel_rfl)) (fun _ _ _ h => h) (Or.inl ⟨by rfl, ?_⟩) hHeld ?_ ?_
                        rotate_left
                        · rintro w' ⟨s0, s1, s2, s3, s4, s5, s6, s7, s8, s9, s10, s11, s12, s13, s14, s15, s16, s17, s18, s19, s20⟩
                          go_simp
                          with_reducible rfl
                        rotate_left
                        · simp only [Act.put, List.setIfInBounds_toArray, List.set_cons_zero, List.set_cons_succ, i64_w, i32_w]
                          rfl
                        refine pure_ (i := 14) (N := some 92) (v := ?_) (a' := ?_) #[true, true, true, true, true, true, true, true, true, true, true, true, true, true, true, false, false, false, false, false, false, false, false, false, false, false, false, false, false] rfl rfl (any_of HT_.out (by kernel_rfl)) (fun _ _ _ h => h) (Or.inl ⟨by rfl, ?_⟩) ?_ ?_
                        rotate_left
                        · intro w'
                          go_simp
                          with_reducible rfl
                        rotate_left
                        · simp only [Act.put, List.setIfInBounds_toArray, List.set_cons_zero, List.set_cons_succ, i64_w, i32_w]
                          rfl
                        refine pure_ (i := 15) (N := some 93) (v := ?_) (a' := ?_) #[true, true, true, true, true, true, true, true, true, true, true, true, true, true, true, true, false, false, false, false, false, false, false, false, false, false, false, false, false] rfl rfl (any_of HT_.out (by kernel_rfl)) (fun _ _ _ h => h) (Or.inl ⟨by rfl, ?_⟩) ?_ ?_
                        rotate_left
                        · intro w'
                          go_simp
                          with_reducible rfl
                        rotate_left
                        · simp only [Act.put, List.setIfInBounds_toArray, List.set_cons_zero, List.set_cons_succ, i64_w, i32_w]
                          rfl
                        refine pure_ (i := 16) (N := some 94) (v := ?_) (a' := ?_) #[true, true, true, true, true, true, true, true, true, true, true, true, true, true, true, true, true, false, false, false, false, false, false, false, false, false, false, false, false] rfl rfl (any_of HT_.out (by kernel_rfl)) (fun _ _ _ h => h) (Or.inl ⟨by rfl, ?_⟩) ?_ ?_
                        rotate_left
                        · intro w'
                          go_simp
                          with_reducible rfl
                        rotate_left
                        · simp only [Act.put, List.setIfInBounds_toArray, List.set_cons_zero, List.set_cons_succ, i64_w, i32_w]
                          rfl
                        refine pure_ (i := 19) (N := some 97) (v := ?_) (a' := ?_) #[true, true, true, true, true, true, true, true, true, true, true, true, true, true, true, true, true, false, false, true, false, false, false, false, false, false, false, false, false] rfl rfl (any_of HT_.out (by kernel_rfl)) (fun _ _ _ h => h) (Or.inl ⟨by rfl, ?_⟩) ?_ ?_
                        rotate_left
                        · intro w'
                          go_simp
                          with_reducible rfl
                        rotate_left
                        · simp only [Act.put, List.setIfInBounds_toArray, List.set_cons_zero, List.set_cons_succ, i64_w, i32_w]
                          rfl
                        refine take_ (i := 17) (N := some 95) (v := ?_) (a' := ?_) #[true, true, true, true, true, true, true, true, true, true, true, true, true, true, true, true, true, true, false, true, false, false, false, false, false, false, false, false, false] rfl rfl (take_ofW HT_.out HW_.out (by kernel_rfl)) (fun _ _ _ h => h) (Or.inl ⟨by rfl, ?_⟩) hHeld ?_ ?_
                        rotate_left
                        · rintro w' ⟨s0, s1, s2, s3, s4, s5, s6, s7, s8, s9, s10, s11, s12, s13, s14, s15, s16, s17, s18, s19, s20⟩
                          go_simp
                          with_reducible rfl
                        rotate_left
                        · simp only [Act.put, List.setIfInBounds_toArray, List.set_cons_zero, List.set_cons_succ, i64_w, i32_w]
                          rfl
                        refine take_ (i := 20) (N := some 98) (v := ?_) (a' := ?_) #[true, true, true, true, true, true, true, true, true, true, true, true, true, true, true, true, true, true, false, true, true, false, false, false, false, false, false, false, false] rfl rfl (take_ofW HT_.out HW_.out (by kernel_rfl)) (fun _ _ _ h => h) (Or.inl ⟨by rfl, ?_⟩) hHeld ?_ ?_
                        rotate_left
                        · rintro w' ⟨s0, s1, s2, s3, s4, s5, s6, s7, s8, s9, s10, s11, s12, s13, s14, s15, s16, s17, s18, s19, s20⟩
                          go_simp
                          with_reducible rfl
                        rotate_left
                        · simp only [Act.put, List.setIfInBounds_toArray, List.set_cons_zero, List.set_cons_succ, i64_w, i32_w]
                          rfl
                        refine take_ (i := 22) (N := some 100) (v := ?_) (a' := ?_) #[true, true, true, true, true, true, true, true, true, true, true, true, true, true, true, true, true, true, false, true, true, false, true, false, false, false, false, false, false] rfl rfl (take_ofW HT_.out HW_.out (by kernel_rfl)) (fun _ _ _ h => h) (Or.inl ⟨by rfl, ?_⟩) hHeld ?_ ?_
                        rotate_left
                        · rintro w' ⟨s0, s1, s2, s3, s4, s5, s6, s7, s8, s9, s10, s11, s12, s13, s14, s15, s16, s17, s18, s19, s20⟩
                          go_simp
                          with_reducible rfl
                        rotate_left
                        · simp only [Act.put, List.setIfInBounds_toArray, List.set_cons_zero, List.set_cons_succ, i64_w, i32_w]
                          rfl
                        refine one_ (i := 18) (N := some 96) #[true, true, true, true, true, true, true, true, true, true, true, true, true, true, true, true, true, true, true, true, true, false, true, false, false, false, false, false, false] rfl rfl (one_of HT_.out (by kernel_rfl)) (by decide) (fun K hK => ?_)
                        refine goes_ Tryd.func14 (by kernel_rfl) rfl #[.agg #[.int .i64 a0_0, .int .i64 a0_1, .int .i64 a0_2, .int .i64 a0_3, .int .i64 a0_4, .int .i64 a0_5, .int .i64 a0_6]] (by rfl) rfl rfl (by (try simp only [List.map_toArray, List.map_cons, List.map_nil]); first | done | rfl | (simp only [List.length_drop, List.length_take]; rfl)) ?_
                        with_reducible refine (date_Unix.calls kj7 a0_0 a0_1 a0_2 a0_3 a0_4 a0_5 a0_6 t222 _ A32.out).mono ?_
                        rintro e w55 ⟨rfl, hb⟩
                        refine ⟨_, rfl, ?_⟩
                        have n0_ := Aside0.mk (blk_below (g := gb184) (o := .cells #[.int .i64 a0_0, .int .i64 a0_1, .int .i64 a0_2, .int .i64 a0_3, .int .i64 a0_4, .int .i64 a0_5, .int .i64 a0_6] 24 (0, 0)) (by (with_reducible repeat (first | refine blk_drewN ?_ _ | refine blk_drew ?_ | refine blk_alloc ?_ _)); exact BK184.out) hb)
                        have n1_ := Aside0.mk (blk_below (g := gb194) (o := .cells #[.int .i64 t186, .int .i64 t187, .int .i64 t188, .int .i64 t189, .int .i64 t190, .int .i64 t191, .int .i64 t192] 24 (0, 0)) (by (with_reducible repeat (first | refine blk_drewN ?_ _ | refine blk_drew ?_ | refine blk_alloc ?_ _)); exact BK194.out) hb)
                        have n2_ := Aside0.mk (blk_below (g := gb209) (o := .cells #[.int .i64 t201, .int .i64 t202, .int .i64 t203, .int .i64 t204, .int .i64 t205, .int .i64 t206, .int .i64 t207] 24 (0, 0)) (by (with_reducible repeat (first | refine blk_drewN ?_ _ | refine blk_drew ?_ | refine blk_alloc ?_ _)); exact BK209.out) hb)
                        have n3_ := Aside0.mk (blk_below (g := gb219) (o := .cells #[.int .i64 t211, .int .i64 t212, .int .i64 t213, .int .i64 t214, .int .i64 t215, .int .i64 t216, .int .i64 t217] 24 (0, 0)) (by (with_reducible repeat (first | refine blk_drewN ?_ _ | refine blk_drew ?_ | refine blk_alloc ?_ _)); exact BK219.out) hb)
                        have n4_ := Aside0.mk (below_step (by repeat (first | (with_reducible first | exact HB.out | apply below_alloc | apply pw_below_drewN | apply below_drew1 | refine below_set ?_ GE184.out | refine below_set ?_ GE194.out | refine below_set ?_ GE209.out | refine below_set ?_ GE219.out) | exact HB.out)) hb)
                        clear BK184
                        clear BK194
                        clear BK209
                        clear BK219
                        clear HB
                        have BK184 := n0_
                        have BK194 := n1_
                        have BK209 := n2_
                        have BK219 := n3_
                        have HB := n4_
                        clear n0_ n1_ n2_ n3_ n4_
                        (try clear hb)
                        (try clear hb2)
                        (try clear hk)
                        (try clear hi)
                        refine hK.out _ _ ⟨(blk_cell BK209.out 0).trans rfl, (blk_cell BK209.out 1).trans rfl, (blk_cell BK209.out 2).trans rfl, (blk_cell BK209.out 3).trans rfl, (blk_cell BK209.out 4).trans rfl, (blk_cell BK209.out 5).trans rfl, (blk_cell BK209.out 6).trans rfl, (blk_cell BK184.out 0).trans rfl, (blk_cell BK184.out 1).trans rfl, (blk_cell BK184.out 2).trans rfl, (blk_cell BK184.out 3).trans rfl, (blk_cell BK184.out 4).trans rfl, (blk_cell BK184.out 5).trans rfl, (blk_cell BK184.out 6).trans rfl, (blk_cell BK219.out 0).trans rfl, (blk_cell BK219.out 1).trans rfl, (blk_cell BK219.out 2).trans rfl, (blk_cell BK219.out 3).trans rfl, (blk_cell BK219.out 4).trans rfl, (blk_cell BK219.out 5).trans rfl, (blk_cell BK219.out 6).trans rfl⟩ (fun hHeld => ?_)
                        clear hK K
                        refine norm_ (a' := ?_) ?_ ?_
                        rotate_left
                        · show Act.put _ (some 96) _ = _
                          simp only [Act.put, List.setIfInBounds_toArray, List.set_cons_zero, List.set_cons_succ, i64_w, i32_w]
                          rfl
                        refine one_ (i := 21) (N := some 99) #[true, true, true, true, true, true, true, true, true, true, true, true, true, true, true, true, true, true, true, true, true, true, true, false, false, false, false, false, false] rfl rfl (one_of HT_.out (by kernel_rfl)) (by decide) (fun K hK => ?_)
                        refine goes_ Tryd.func15 (by kernel_rfl) rfl #[.int .i64 t222, .int .i64 a0_6] (by rfl) rfl rfl (by (try simp only [List.map_toArray, List.map_cons, List.map_nil]); first | done | rfl | (simp only [List.length_drop, List.length_take]; rfl)) ?_
                        with_reducible refine (date_At.calls kj7 t222 a0_6 t223 t224 t225 t226 t227 t228 t229 _ A33.out).mono ?_
                        rintro e w56 ⟨rfl, hb⟩
                        refine ⟨_, rfl, ?_⟩
                        have n0_ := Aside0.mk (blk_below (g := gb184) (o := .cells #[.int .i64 a0_0, .int .i64 a0_1, .int .i64 a0_2, .int .i64 a0_3, .int .i64 a0_4, .int .i64 a0_5, .int .i64 a0_6] 24 (0, 0)) (by (with_reducible repeat (first | refine blk_drewN ?_ _ | refine blk_drew ?_ | refine blk_alloc ?_ _)); exact BK184.out) hb)
                        have n1_ := Aside0.mk (blk_below (g := gb194) (o := .cells #[.int .i64 t186, .int .i64 t187, .int .i64 t188, .int .i64 t189, .int .i64 t190, .int .i64 t191, .int .i64 t192] 24 (0, 0)) (by (with_reducible repeat (first | refine blk_drewN ?_ _ | refine blk_drew ?_ | refine blk_alloc ?_ _)); exact BK194.out) hb)
                        have n2_ := Aside0.mk (blk_below (g := gb209) (o := .cells #[.int .i64 t201, .int .i64 t202, .int .i64 t203, .int .i64 t204, .int .i64 t205, .int .i64 t206, .int .i64 t207] 24 (0, 0)) (by (with_reducible repeat (first | refine blk_drewN ?_ _ | refine blk_drew ?_ | refine blk_alloc ?_ _)); exact BK209.out) hb)
                        have n3_ := Aside0.mk (blk_below (g := gb219) (o := .cells #[.int .i64 t211, .int .i64 t212, .int .i64 t213, .int .i64 t214, .int .i64 t215, .int .i64 t216, .int .i64 t217] 24 (0, 0)) (by (with_reducible repeat (first | refine blk_drewN ?_ _ | refine blk_drew ?_ | refine blk_alloc ?_ _)); exact BK219.out) hb)
                        have n4_ := Aside0.mk (below_step (by repeat (first | (with_reducible first | exact HB.out | apply below_alloc | apply pw_below_drewN | apply below_drew1 | refine below_set ?_ GE184.out | refine below_set ?_ GE194.out | refine below_set ?_ GE209.out | refine below_set ?_ GE219.out) | exact HB.out)) hb)
                        clear BK184
                        clear BK194
                        clear BK209
                        clear BK219
                        clear HB
                        have BK184 := n0_
                        have BK194 := n1_
                        have BK209 := n2_
                        have BK219 := n3_
                        have HB := n4_
                        clear n0_ n1_ n2_ n3_ n4_
                        (try clear hb)
                        (try clear hb2)
                        (try clear hk)
                        (try clear hi)
                        refine hK.out _ _ ⟨(blk_cell BK209.out 0).trans rfl, (blk_cell BK209.out 1).trans rfl, (blk_cell BK209.out 2).trans rfl, (blk_cell BK209.out 3).trans rfl, (blk_cell BK209.out 4).trans rfl, (blk_cell BK209.out 5).trans rfl, (blk_cell BK209.out 6).trans rfl, (blk_cell BK184.out 0).trans rfl, (blk_cell BK184.out 1).trans rfl, (blk_cell BK184.out 2).trans rfl, (blk_cell BK184.out 3).trans rfl, (blk_cell BK184.out 4).trans rfl, (blk_cell BK184.out 5).trans rfl, (blk_cell BK184.out 6).trans rfl, (blk_cell BK219.out 0).trans rfl, (blk_cell BK219.out 1).trans rfl, (blk_cell BK219.out 2).trans rfl, (blk_cell BK219.out 3).trans rfl, (blk_cell BK219.out 4).trans rfl, (blk_cell BK219.out 5).trans rfl, (blk_cell BK219.out 6).trans rfl⟩ (fun hHeld => ?_)
                        clear hK K
                        refine norm_ (a' := ?_) ?_ ?_
                        rotate_left
                        · show Act.put _ (some 99) _ = _
                          simp only [Act.put, List.setIfInBounds_toArray, List.set_cons_zero, List.set_cons_succ, i64_w, i32_w]
                          rfl
                        refine pure_ (i := 23) (N := some 101) (v := ?_) (a' := ?_) #[true, true, true, true, true, true, true, true, true, true, true, true, true, true, true, true, true, true, true, true, true, true, true, true, false, false, false, false, false] rfl rfl (any_of HT_.out (by kernel_rfl)) (fun _ _ _ h => h) (Or.inl ⟨by rfl, ?_⟩) ?_ ?_
                        rotate_left
                        · intro w'
                          go_simp
                          with_reducible rfl
                        rotate_left
                        · simp only [Act.put, List.setIfInBounds_toArray, List.set_cons_zero, List.set_cons_succ, i64_w, i32_w]
                          rfl
                        refine pure_ (i := 24) (N := some 102) (v := ?_) (a' := ?_) #[true, true, true, true, true, true, true, true, true, true, true, true, true, true, true, true, true, true, true, true, true, true, true, true, true, false, false, false, false] rfl rfl (any_of HT_.out (by kernel_rfl)) (fun _ _ _ h => h) (Or.inl ⟨by rfl, ?_⟩) ?_ ?_
                        rotate_left
                        · intro w'
                          go_simp
                          with_reducible rfl
                        rotate_left
                        · simp only [Act.put, List.setIfInBounds_toArray, List.set_cons_zero, List.set_cons_succ, i64_w, i32_w]
                          rfl
                        refine pure_ (i := 25) (N := some 103) (v := ?_) (a' := ?_) #[true, true, true, true, true, true, true, true, true, true, true, true, true, true, true, true, true, true, true, true, true, true, true, true, true, true, false, false, false] rfl rfl (any_of HT_.out (by kernel_rfl)) (fun _ _ _ h => h) (Or.inl ⟨by rfl, ?_⟩) ?_ ?_
                        rotate_left
                        · intro w'
                          go_simp
                          with_reducible rfl
                        rotate_left
                        · simp only [Act.put, List.setIfInBounds_toArray, List.set_cons_zero, List.set_cons_succ, i64_w, i32_w]
                          rfl
                        refine one_ (i := 26) (N := some 104) #[true, true, true, true, true, true, true, true, true, true, true, true, true, true, true, true, true, true, true, true, true, true, true, true, true, true, true, false, false] rfl rfl (one_of HT_.out (by kernel_rfl)) (by decide) (fun K hK => ?_)
                        refine goes_ Tryd.func5 (by kernel_rfl) rfl #[] (by rfl) rfl rfl (by (try simp only [List.map_toArray, List.map_cons, List.map_nil]); first | done | rfl | (simp only [List.length_drop, List.length_take]; rfl)) ?_
                        with_reducible refine (haversacklaw09_alive.calls kj7  t230 _ A35.out).mono ?_
                        rintro e w57 ⟨rfl, hb⟩
                        refine ⟨_, rfl, ?_⟩
                        have n0_ := Aside0.mk (blk_below (g := gb184) (o := .cells #[.int .i64 a0_0, .int .i64 a0_1, .int .i64 a0_2, .int .i64 a0_3, .int .i64 a0_4, .int .i64 a0_5, .int .i64 a0_6] 24 (0, 0)) (by (with_reducible repeat (first | refine blk_drewN ?_ _ | refine blk_drew ?_ | refine blk_alloc ?_ _)); exact BK184.out) hb)
                        have n1_ := Aside0.mk (blk_below (g := gb194) (o := .cells #[.int .i64 t186, .int .i64 t187, .int .i64 t188, .int .i64 t189, .int .i64 t190, .int .i64 t191, .int .i64 t192] 24 (0, 0)) (by (with_reducible repeat (first | refine blk_drewN ?_ _ | refine blk_drew ?_ | refine blk_alloc ?_ _)); exact BK194.out) hb)
                        have n2_ := Aside0.mk (blk_below (g := gb209) (o := .cells #[.int .i64 t201, .int .i64 t202, .int .i64 t203, .int .i64 t204, .int .i64 t205, .int .i64 t206, .int .i64 t207] 24 (0, 0)) (by (with_reducible repeat (first | refine blk_drewN ?_ _ | refine blk_drew ?_ | refine blk_alloc ?_ _)); exact BK209.out) hb)
                        have n3_ := Aside0.mk (blk_below (g := gb219) (o := .cells #[.int .i64 t211, .int .i64 t212, .int .i64 t213, .int .i64 t214, .int .i64 t215, .int .i64 t216, .int .i64 t217] 24 (0, 0)) (by (with_reducible repeat (first | refine blk_drewN ?_ _ | refine blk_drew ?_ | refine blk_alloc ?_ _)); exact BK219.out) hb)
                        have n4_ := Aside0.mk (below_step (by repeat (first | (with_reducible first | exact HB.out | apply below_alloc | apply pw_below_drewN | apply below_drew1 | refine below_set ?_ GE184.out | refine below_set ?_ GE194.out | refine below_set ?_ GE209.out | refine below_set ?_ GE219.out) | exact HB.out)) hb)
                        clear BK184
                        clear BK194
                        clear BK209
                        clear BK219
                        clear HB
                        have BK184 := n0_
                        have BK194 := n1_
                        have BK209 := n2_
                        have BK219 := n3_
                        have HB := n4_
                        clear n0_ n1_ n2_ n3_ n4_
                        (try clear hb)
                        (try clear hb2)
                        (try clear hk)
                        (try clear hi)
                        refine hK.out _ _ ⟨(blk_cell BK209.out 0).trans rfl, (blk_cell BK209.out 1).trans rfl, (blk_cell BK209.out 2).trans rfl, (blk_cell BK209.out 3).trans rfl, (blk_cell BK209.out 4).trans rfl, (blk_cell BK209.out 5).trans rfl, (blk_cell BK209.out 6).trans rfl, (blk_cell BK184.out 0).trans rfl, (blk_cell BK184.out 1).trans rfl, (blk_cell BK184.out 2).trans rfl, (blk_cell BK184.out 3).trans rfl, (blk_cell BK184.out 4).trans rfl, (blk_cell BK184.out 5).trans rfl, (blk_cell BK184.out 6).trans rfl, (blk_cell BK219.out 0).trans rfl, (blk_cell BK219.out 1).trans rfl, (blk_cell BK219.out 2).trans rfl, (blk_cell BK219.out 3).trans rfl, (blk_cell BK219.out 4).trans rfl, (blk_cell BK219.out 5).trans rfl, (blk_cell BK219.out 6).trans rfl⟩ (fun hHeld => ?_)
                        clear hK K
                        refine norm_ (a' := ?_) ?_ ?_
                        rotate_left
                        · show Act.put _ (some 104) _ = _
                          simp only [Act.put, List.setIfInBounds_toArray, List.set_cons_zero, List.set_cons_succ, i64_w, i32_w]
                          rfl
                        refine pure_ (i := 27) (N := some 105) (v := ?_) (a' := ?_) #[true, true, true, true, true, true, true, true, true, true, true, true, true, true, true, true, true, true, true, true, true, true, true, true, true, true, true, true, false] rfl rfl (any_of HT_.out (by kernel_rfl)) (fun _ _ _ h => h) (Or.inl ⟨by rfl, ?_⟩) ?_ ?_
                        rotate_left
                        · intro w'
                          go_simp
                          with_reducible rfl
                        rotate_left
                        · simp only [Act.put, List.setIfInBounds_toArray, List.set_cons_zero, List.set_cons_succ, i64_w, i32_w]
                          rfl
                        refine pure_ (i := 28) (N := some 4) (v := ?_) (a' := ?_) #[true, true, true, true, true, true, true, true, true, true, true, true, true, true, true, true, true, true, true, true, true, true, true, true, true, true, true, true, true] rfl rfl (any_of HT_.out (by kernel_rfl)) (fun _ _ _ h => h) (Or.inl ⟨by rfl, ?_⟩) ?_ ?_
                        rotate_left
                        · intro w'
                          go_simp
                          with_reducible rfl
                        rotate_left
                        · simp only [Act.put, List.setIfInBounds_toArray, List.set_cons_zero, List.set_cons_succ, i64_w, i32_w]
                          rfl
                        refine done_ (done_of HT_.out (by kernel_rfl)) ?_
                        try go_wp2
                        go_ret
                        exact ⟨by first | rfl | (simp [errW_none, errW_some] <;> rfl) | (simp [*, errW_none, errW_some] <;> rfl), by repeat (first | (with_reducible first | exact HB.out | apply below_alloc | apply pw_below_drewN | apply below_drew1 | refine below_set ?_ GE184.out | refine below_set ?_ GE194.out | refine below_set ?_ GE209.out | refine below_set ?_ GE219.out) | exact HB.out)⟩
                  · rw [if_neg c34] at H
                    cases H
                · rw [if_neg c31] at H
                  cases H
              · rw [if_neg c30] at H
                cases H
            · rw [if_neg c29] at H
              cases H
          · replace c23 := Bool.eq_false_iff.mpr c23
            subst c23
            have H1 : (if t197.toList = ([] : List UInt8) then ((date_Unix.f kj7 a0_0 a0_1 a0_2 a0_3 a0_4 a0_5 a0_6).bind fun t199 => (if t199 = 0 then ((haversacklaw09_alive.f kj7).bind fun t200 => (some t200)) else none)) else none) = some r := by rw [if_neg (show ¬ (false = true) by decide)] at H; exact H
            clear H
            have H := H1
            clear H1
            by_cases c136 : t197.toList = ([] : List UInt8)
            · rw [if_pos c136] at H
              have c136b0 : (t197.toList == ([] : List UInt8)) = true := beq_iff_eq.mpr c136
              have c136b1 : (t197.toList != ([] : List UInt8)) = false := bne_eq_false_iff_eq.mpr c136
              clear c136
              replace H := Option.bind_eq_some_iff.mp H
              obtain ⟨t199, A1370, H⟩ := H
              replace H : (if t199 = 0 then ((haversacklaw09_alive.f kj7).bind fun t200 => (some t200)) else none) = some r := H
              have A137 := Aside0.mk A1370
              clear A1370
              by_cases c138 : t199 = 0
              · rw [if_pos c138] at H
                have c138b0 : (t199 == 0) = true := beq_iff_eq.mpr c138
                have c138b1 : (t199 != 0) = false := bne_eq_false_iff_eq.mpr c138
                clear c138
                replace H := Option.bind_eq_some_iff.mp H
                obtain ⟨t200, A1390, H⟩ := H
                replace H : (some t200) = some r := H
                have A139 := Aside0.mk A1390
                clear A1390
                obtain rfl := Option.some.inj H
                have hnb140 := NB184_194.out
                have hnc140 := NB194_184.out
                have hcz141_0 : wc.cell? ⟨gb184, 0, none⟩ = some (.int .i64 a0_0) := (blk_cell BK184.out 0).trans rfl
                have hcz141_1 : wc.cell? ⟨gb184, 1, none⟩ = some (.int .i64 a0_1) := (blk_cell BK184.out 1).trans rfl
                have hcz141_2 : wc.cell? ⟨gb184, 2, none⟩ = some (.int .i64 a0_2) := (blk_cell BK184.out 2).trans rfl
                have hcz141_3 : wc.cell? ⟨gb184, 3, none⟩ = some (.int .i64 a0_3) := (blk_cell BK184.out 3).trans rfl
                have hcz141_4 : wc.cell? ⟨gb184, 4, none⟩ = some (.int .i64 a0_4) := (blk_cell BK184.out 4).trans rfl
                have hcz141_5 : wc.cell? ⟨gb184, 5, none⟩ = some (.int .i64 a0_5) := (blk_cell BK184.out 5).trans rfl
                have hcz141_6 : wc.cell? ⟨gb184, 6, none⟩ = some (.int .i64 a0_6) := (blk_cell BK184.out 6).trans rfl
                have hfz141_0 := blk_frozen BK184.out 0
                have hfz141_1 := blk_frozen BK184.out 1
                have hfz141_2 := blk_frozen BK184.out 2
                have hfz141_3 := blk_frozen BK184.out 3
                have hfz141_4 := blk_frozen BK184.out 4
                have hfz141_5 := blk_frozen BK184.out 5
                have hfz141_6 := blk_frozen BK184.out 6
                go_wp2_with (first | ((with_reducible refine gate_callee (f := 12) rfl ?_); refine goesL_ (some 33) rfl rfl Tryd.func12 (by kernel_rfl) rfl #[.agg #[.int .i64 a0_0, .int .i64 a0_1, .int .i64 a0_2, .int .i64 a0_3, .int .i64 a0_4, .int .i64 a0_5, .int .i64 a0_6]] rfl (by (try simp only [List.map_toArray, List.map_cons, List.map_nil]); first | done | rfl | (simp only [List.length_drop, List.length_take]; rfl)) ?_; (with_reducible refine (date_Print.calls kj7 a0_0 a0_1 a0_2 a0_3 a0_4 a0_5 a0_6 t197 _ A21.out).mono ?_); rintro e w142 ⟨rfl, hb⟩; refine ⟨_, rfl, ?_⟩; have n0_ := Aside0.mk (blk_below (g := gb184) (o := .cells #[.int .i64 a0_0, .int .i64 a0_1, .int .i64 a0_2, .int .i64 a0_3, .int .i64 a0_4, .int .i64 a0_5, .int .i64 a0_6] 24 (0, 0)) (by (with_reducible repeat (first | refine blk_drewN ?_ _ | refine blk_drew ?_ | refine blk_alloc ?_ _)); exact BK184.out) hb); have n1_ := Aside0.mk (blk_below (g := gb194) (o := .cells #[.int .i64 t186, .int .i64 t187, .int .i64 t188, .int .i64 t189, .int .i64 t190, .int .i64 t191, .int .i64 t192] 24 (0, 0)) (by (with_reducible repeat (first | refine blk_drewN ?_ _ | refine blk_drew ?_ | refine blk_alloc ?_ _)); exact BK194.out) hb); have n2_ := Aside0.mk (below_step (by repeat (first | (with_reducible first | exact HB.out | apply below_alloc | apply pw_below_drewN | apply below_drew1 | refine below_set ?_ GE184.out | refine below_set ?_ GE194.out) | exact HB.out)) hb); clear BK184; clear BK194; clear HB; have BK184 := n0_; have BK194 := n1_; have HB := n2_; clear n0_ n1_ n2_; (try clear hb); (try clear hb2); (try clear hk); (try clear hi); have hcz143_0 : w142.cell? ⟨gb184, 0, none⟩ = some (.int .i64 a0_0) := (blk_cell BK184.out 0).trans rfl; have hcz143_1 : w142.cell? ⟨gb184, 1, none⟩ = some (.int .i64 a0_1) := (blk_cell BK184.out 1).trans rfl; have hcz143_2 : w142.cell? ⟨gb184, 2, none⟩ = some (.int .i64 a0_2) := (blk_cell BK184.out 2).trans rfl; have hcz143_3 : w142.cell? ⟨gb184, 3, none⟩ = some (.int .i64 a0_3) := (blk_cell BK184.out 3).trans rfl; have hcz143_4 : w142.cell? ⟨gb184, 4, none⟩ = some (.int .i64 a0_4) := (blk_cell BK184.out 4).trans rfl; have hcz143_5 : w142.cell? ⟨gb184, 5, none⟩ = some (.int .i64 a0_5) := (blk_cell BK184.out 5).trans rfl; have hcz143_6 : w142.cell? ⟨gb184, 6, none⟩ = some (.int .i64 a0_6) := (blk_cell BK184.out 6).trans rfl; have hfz143_0 := blk_frozen BK184.out 0; have hfz143_1 := blk_frozen BK184.out 1; have hfz143_2 := blk_frozen BK184.out 2; have hfz143_3 := blk_frozen BK184.out 3; have hfz143_4 := blk_frozen BK184.out 4; have hfz143_5 := blk_frozen BK184.out 5; have hfz143_6 := blk_frozen BK184.out 6) | ((with_reducible refine gate_callee (f := 13) rfl ?_); refine goesL_ (some 35) rfl rfl Tryd.func13 (by kernel_rfl) rfl #[.agg #[.int .i64 a0_0, .int .i64 a0_1, .int .i64 a0_2, .int .i64 a0_3, .int .i64 a0_4, .int .i64 a0_5, .int .i64 a0_6]] rfl (by (try simp only [List.map_toArray, List.map_cons, List.map_nil]); first | done | rfl | (simp only [List.length_drop, List.length_take]; rfl)) ?_; (with_reducible refine (date_Right.calls kj7 a0_0 a0_1 a0_2 a0_3 a0_4 a0_5 a0_6 false _ A22.out).mono ?_); rintro e w144 ⟨rfl, hb⟩; refine ⟨_, rfl, ?_⟩; have n0_ := Aside0.mk (blk_below (g := gb184) (o := .cells #[.int .i64 a0_0, .int .i64 a0_1, .int .i64 a0_2, .int .i64 a0_3, .int .i64 a0_4, .int .i64 a0_5, .int .i64 a0_6] 24 (0, 0)) (by (with_reducible repeat (first | refine blk_drewN ?_ _ | refine blk_drew ?_ | refine blk_alloc ?_ _)); exact BK184.out) hb); have n1_ := Aside0.mk (blk_below (g := gb194) (o := .cells #[.int .i64 t186, .int .i64 t187, .int .i64 t188, .int .i64 t189, .int .i64 t190, .int .i64 t191, .int .i64 t192] 24 (0, 0)) (by (with_reducible repeat (first | refine blk_drewN ?_ _ | refine blk_drew ?_ | refine blk_alloc ?_ _)); exact BK194.out) hb); have n2_ := Aside0.mk (below_step (by repeat (first | (with_reducible first | exact HB.out | apply below_alloc | apply pw_below_drewN | apply below_drew1 | refine below_set ?_ GE184.out | refine below_set ?_ GE194.out) | exact HB.out)) hb); clear BK184; clear BK194; clear HB; have BK184 := n0_; have BK194 := n1_; have HB := n2_; clear n0_ n1_ n2_; (try clear hb); (try clear hb2); (try clear hk); (try clear hi); have hcz145_0 : w144.cell? ⟨gb184, 0, none⟩ = some (.int .i64 a0_0) := (blk_cell BK184.out 0).trans rfl; have hcz145_1 : w144.cell? ⟨gb184, 1, none⟩ = some (.int .i64 a0_1) := (blk_cell BK184.out 1).trans rfl; have hcz145_2 : w144.cell? ⟨gb184, 2, none⟩ = some (.int .i64 a0_2) := (blk_cell BK184.out 2).trans rfl; have hcz145_3 : w144.cell? ⟨gb184, 3, none⟩ = some (.int .i64 a0_3) := (blk_cell BK184.out 3).trans rfl; have hcz145_4 : w144.cell? ⟨gb184, 4, none⟩ = some (.int .i64 a0_4) := (blk_cell BK184.out 4).trans rfl; have hcz145_5 : w144.cell? ⟨gb184, 5, none⟩ = some (.int .i64 a0_5) := (blk_cell BK184.out 5).trans rfl; have hcz145_6 : w144.cell? ⟨gb184, 6, none⟩ = some (.int .i64 a0_6) := (blk_cell BK184.out 6).trans rfl; have hfz145_0 := blk_frozen BK184.out 0; have hfz145_1 := blk_frozen BK184.out 1; have hfz145_2 := blk_frozen BK184.out 2; have hfz145_3 := blk_frozen BK184.out 3; have hfz145_4 := blk_frozen BK184.out 4; have hfz145_5 := blk_frozen BK184.out 5; have hfz145_6 := blk_frozen BK184.out 6) | (go_at_call 14; (with_reducible refine (date_Unix.calls kj7 a0_0 a0_1 a0_2 a0_3 a0_4 a0_5 a0_6 t199 _ A137.out).mono ?_); rintro e w146 ⟨rfl, hb⟩; have n0_ := Aside0.mk (blk_below (g := gb184) (o := .cells #[.int .i64 a0_0, .int .i64 a0_1, .int .i64 a0_2, .int .i64 a0_3, .int .i64 a0_4, .int .i64 a0_5, .int .i64 a0_6] 24 (0, 0)) (by (with_reducible repeat (first | refine blk_drewN ?_ _ | refine blk_drew ?_ | refine blk_alloc ?_ _)); exact BK184.out) hb); have n1_ := Aside0.mk (blk_below (g := gb194) (o := .cells #[.int .i64 t186, .int .i64 t187, .int .i64 t188, .int .i64 t189, .int .i64 t190, .int .i64 t191, .int .i64 t192] 24 (0, 0)) (by (with_reducible repeat (first | refine blk_drewN ?_ _ | refine blk_drew ?_ | refine blk_alloc ?_ _)); exact BK194.out) hb); have n2_ := Aside0.mk (below_step (by repeat (first | (with_reducible first | exact HB.out | apply below_alloc | apply pw_below_drewN | apply below_drew1 | refine below_set ?_ GE184.out | refine below_set ?_ GE194.out) | exact HB.out)) hb); clear BK184; clear BK194; clear HB; have BK184 := n0_; have BK194 := n1_; have HB := n2_; clear n0_ n1_ n2_; (try clear hb); (try clear hb2); (try clear hk); (try clear hi)) | (go_at_call 5; (with_reducible refine (haversacklaw09_alive.calls kj7  t200 _ A139.out).mono ?_); rintro e w147 ⟨rfl, hb⟩; have n0_ := Aside0.mk (blk_below (g := gb184) (o := .cells #[.int .i64 a0_0, .int .i64 a0_1, .int .i64 a0_2, .int .i64 a0_3, .int .i64 a0_4, .int .i64 a0_5, .int .i64 a0_6] 24 (0, 0)) (by (with_reducible repeat (first | refine blk_drewN ?_ _ | refine blk_drew ?_ | refine blk_alloc ?_ _)); exact BK184.out) hb); have n1_ := Aside0.mk (blk_below (g := gb194) (o := .cells #[.int .i64 t186, .int .i64 t187, .int .i64 t188, .int .i64 t189, .int .i64 t190, .int .i64 t191, .int .i64 t192] 24 (0, 0)) (by (with_reducible repeat (first | refine blk_drewN ?_ _ | refine blk_drew ?_ | refine blk_alloc ?_ _)); exact BK194.out) hb); have n2_ := Aside0.mk (below_step (by repeat (first | (with_reducible first | exact HB.out | apply below_alloc | apply pw_below_drewN | apply below_drew1 | refine below_set ?_ GE184.out | refine below_set ?_ GE194.out) | exact HB.out)) hb); clear BK184; clear BK194; clear HB; have BK184 := n0_; have BK194 := n1_; have HB := n2_; clear n0_ n1_ n2_; (try clear hb); (try clear hb2); (try clear hk); (try clear hi)))
                go_ret
                exact ⟨by first | rfl | (simp [errW_none, errW_some] <;> rfl) | (simp [*, errW_none, errW_some] <;> rfl), by repeat (first | (with_reducible first | exact HB.out | apply below_alloc | apply pw_below_drewN | apply below_drew1 | refine below_set ?_ GE184.out | refine below_set ?_ GE194.out) | exact HB.out)⟩
              · rw [if_neg c138] at H
                cases H
            · rw [if_neg c136] at H
              cases H
end Go.Proofs.YtooknjpdflokkaaDoor.PP
