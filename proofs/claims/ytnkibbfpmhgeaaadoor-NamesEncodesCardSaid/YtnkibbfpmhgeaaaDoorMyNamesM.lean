/-
  Patterns: which beginnings of a name are matched, as a function of their length; names.Match tells it.
-/
import Derived.Test.YtnkibbfpmhgeaaaDoorPPx4
import Derived.Test.YtnkibbfpmhgeaaaDoorMyNamesA
namespace Go.Proofs.YtnkibbfpmhgeaaaDoor.Pure
open Go.RowKit Go.Proofs.YtnkibbfpmhgeaaaDoor.PP Go.Proofs.YtnkibbfpmhgeaaaDoor.My Go.Proofs.YtnkibbfpmhgeaaaDoorW.PrintWords Go.Proofs.YtnkibbfpmhgeaaaDoorW.PrintLast
set_option linter.unusedVariables false
set_option linter.unusedSimpArgs false
/-- From some number of rounds on, f tells v. -/
def Ev {α : Type} (f : Nat → Option α) (v : α) : Prop := ∃ K, ∀ k, K ≤ k → f k = some v
theorem Ev.next {α : Type} {g h : Nat → Option α} {v : α} (e : ∀ k, g (k + 1) = h k) (H : Ev h v) : Ev g v := by
  obtain ⟨K, hK⟩ := H
  refine ⟨K + 1, fun k hk => ?_⟩
  obtain ⟨j, rfl⟩ : ∃ j, k = j + 1 := ⟨k - 1, by omega⟩
  rw [e]; exact hK j (by omega)
theorem Ev.now {α : Type} {g : Nat → Option α} {v : α} (e : ∀ k, g (k + 1) = some v) : Ev g v := by
  refine ⟨1, fun k hk => ?_⟩
  obtain ⟨j, rfl⟩ : ∃ j, k = j + 1 := ⟨k - 1, by omega⟩
  exact e j
theorem Ev.same {α : Type} {g h : Nat → Option α} {v : α} (e : ∀ k, g k = h k) (H : Ev h v) : Ev g v := by
  obtain ⟨K, hK⟩ := H
  exact ⟨K, fun k hk => by rw [e]; exact hK k hk⟩
theorem w64 {x : Int} (h : -9223372036854775808 ≤ x ∧ x ≤ 9223372036854775807) : wrap64 x = x := by unfold wrap64; omega
theorem btn (l : List UInt8) (i : Nat) : bt ⟨l.toArray⟩ (i : Int) = ((l.getD i 0).toNat : Int) := by
  unfold bt
  simp only [Int.toNat_natCast]
  by_cases h : i < l.length
  · rw [dif_pos (by simpa [ByteArray.size] using h), List.getD_eq_getElem?_getD, List.getElem?_eq_getElem h]
    rfl
  · rw [dif_neg (by simpa [ByteArray.size] using h), List.getD_eq_getElem?_getD, List.getElem?_eq_none (by omega)]
    rfl
theorem u8i (c d : UInt8) : ((c.toNat : Int) = (d.toNat : Int)) = (c = d) := by
  rw [eq_iff_iff]
  exact ⟨fun h => UInt8.toNat_inj.1 (by omega), fun h => by rw [h]⟩
/-- The first n of what F tells. -/
def tab (n : Nat) (F : Nat → Bool) : List Bool := (List.range n).map F
theorem tab_length (n : Nat) (F : Nat → Bool) : (tab n F).length = n := by simp [tab]
theorem tab_rd (n : Nat) (F : Nat → Bool) (i : Nat) (h : i < n) : rdOf false (tab n F) (i : Int) = F i := by
  unfold rdOf tab
  simp [List.getD_eq_getElem?_getD, h]
theorem tab_congr {n : Nat} {F G : Nat → Bool} (h : ∀ i, i < n → F i = G i) : tab n F = tab n G := by
  unfold tab
  exact List.map_congr_left fun i hi => h i (List.mem_range.1 hi)
theorem tab_set (n : Nat) (F : Nat → Bool) (i : Nat) (v : Bool) : (tab n F).set i v = tab n (fun j => if j = i then v else F j) := by
  apply List.ext_getElem
  · simp [tab]
  · intro j h1 h2
    simp only [tab, List.getElem_set, List.getElem_map, List.getElem_range]
    by_cases e : i = j
    · rw [if_pos e, if_pos e.symm]
    · rw [if_neg e, if_neg (fun h => e h.symm)]
theorem tab_false (n : Nat) : List.replicate n false = tab n (fun _ => false) := by
  apply List.ext_getElem
  · simp [tab]
  · intro j h1 h2; simp [tab]

/-! ### The row of beginnings -/
/-- Does what stands in for a byte reach over a byte of the name? -/
def over (n : List UInt8) (c : UInt8) (t : Nat) : Bool := c == 42 || n.getD t 0 != 47
def starF (n : List UInt8) (c : UInt8) (f : Nat → Bool) : Nat → Bool
  | 0 => f 0
  | k + 1 => f (k + 1) || (over n c k && starF n c f k)
def litF (n : List UInt8) (c : UInt8) (f : Nat → Bool) : Nat → Bool
  | 0 => false
  | k + 1 => f k && n.getD k 0 == c
def step (n : List UInt8) (f : Nat → Bool) (c : UInt8) : Nat → Bool := if c == 42 || c == 37 then starF n c f else litF n c f
def f0 : Nat → Bool := fun k => k == 0
def rowF (n p : List UInt8) (f : Nat → Bool) : Nat → Bool := p.foldl (step n) f
def matchB (p n : List UInt8) : Bool := rowF n p f0 n.length
def cut (k : Nat) (g : Nat → Bool) : Nat → Bool := fun j => if j < k then g j else false
theorem cut_set (k n : Nat) (g : Nat → Bool) (v : Bool) (hv : v = g k) : (tab n (cut k g)).set k v = tab n (cut (k + 1) g) := by
  rw [tab_set]
  apply tab_congr
  intro j hj
  unfold cut
  by_cases e : j = k
  · subst e; rw [if_pos rfl, if_pos (by omega), hv]
  · rw [if_neg e]
    by_cases h : j < k
    · rw [if_pos h, if_pos (by omega)]
    · rw [if_neg h, if_neg (by omega)]
set_option maxHeartbeats 1000000 in
theorem match_l1 (p n : List UInt8) (hn : n.length ≤ 1000000) (f : Nat → Bool) (c : UInt8) (P i : Int) (v : Bool)
    (H : Ev (fun q => names_Match.l0 q ⟨p.toArray⟩ ⟨n.toArray⟩ (tab (n.length + 1) (step n f c)) P (wrap64 (i + 1))) v) :
    ∀ d k : Nat, k + d = n.length + 1 → Ev (fun q => names_Match.l1 q ⟨p.toArray⟩ ⟨n.toArray⟩ (tab (n.length + 1) f) (tab (n.length + 1) (cut k (step n f c))) (c.toNat : Int) P i ((n.length + 1 : Nat) : Int) (k : Int)) v := by
  intro d
  induction d with
  | zero =>
    intro k hk
    obtain rfl : k = n.length + 1 := by omega
    refine Ev.next (h := fun q => names_Match.l0 q ⟨p.toArray⟩ ⟨n.toArray⟩ (tab (n.length + 1) (step n f c)) P (wrap64 (i + 1))) (fun q => ?_) H
    rw [names_Match.l1, if_neg (by omega)]
    rw [show tab (n.length + 1) (cut (n.length + 1) (step n f c)) = tab (n.length + 1) (step n f c) from tab_congr fun j hj => if_pos hj]
  | succ d ih =>
    intro k hk
    have hih := ih (k + 1) (by omega)
    have hw : wrap64 ((k : Int) + 1) = ((k + 1 : Nat) : Int) := by rw [w64 (by omega)]; omega
    have hbt : ((c.toNat : Int) = 42) = (c = 42) := u8i c 42
    have hbt2 : ((c.toNat : Int) == 37) = (c == 37) := by
      rw [Bool.eq_iff_iff, beq_iff_eq, beq_iff_eq]
      exact Eq.to_iff (u8i c 37)
    have hj : Ev (fun q => names_Match.j2 q ⟨p.toArray⟩ ⟨n.toArray⟩ (tab (n.length + 1) f) (tab (n.length + 1) (cut k (step n f c))) (c.toNat : Int) (k : Int) P i ((n.length + 1 : Nat) : Int) (k : Int) (c == 42 || c == 37)) v := by
      refine Ev.next (h := fun q => names_Match.l1 q ⟨p.toArray⟩ ⟨n.toArray⟩ (tab (n.length + 1) f) (tab (n.length + 1) (cut (k + 1) (step n f c))) (c.toNat : Int) P i ((n.length + 1 : Nat) : Int) ((k + 1 : Nat) : Int)) (fun q => ?_) hih
      rw [names_Match.j2]
      simp only [tab_length, hw, ba_size, Int.toNat_natCast]
      rw [tab_rd _ f k (by omega)]
      by_cases hs : (c == 42 || c == 37) = true
      · rw [if_pos hs, if_pos (by omega), if_pos (by omega)]
        have hstep : step n f c = starF n c f := if_pos hs
        by_cases hf : f k = true
        · rw [if_pos hf, if_pos (by omega), cut_set]
          rw [hstep]
          cases k with
          | zero => exact hf.symm
          | succ k => simp [starF, hf]
        · rw [if_neg hf]
          cases k with
          | zero =>
            rw [if_neg (by omega), if_pos (by omega), cut_set]
            rw [hstep]
            simpa [starF] using hf
          | succ k =>
            have hm : wrap64 (((k + 1 : Nat) : Int) - 1) = (k : Int) := by rw [w64 (by omega)]; omega
            rw [if_pos (by omega), hm, if_pos (by omega), if_pos (by omega), tab_rd _ _ k (by omega)]
            have hc : cut (k + 1) (step n f c) k = starF n c f k := by unfold cut; rw [if_pos (by omega), hstep]
            rw [hc]
            by_cases hg : starF n c f k = true
            · rw [if_pos hg]
              by_cases h42 : c = 42
              · rw [if_pos (hbt.mpr h42), if_pos (by omega), cut_set]
                rw [hstep]
                have hov : over n c k = true := by simp [over, h42]
                simp [starF, hg, hov]
              · rw [if_neg (fun h => h42 (hbt.mp h)), if_pos (by omega), if_pos (by omega), cut_set]
                rw [hstep, btn]
                have h42b : (c == 42) = false := beq_eq_false_iff_ne.mpr h42
                have : (((n.getD k 0).toNat : Int) != 47) = (n.getD k 0 != 47) := by
                  rw [Bool.eq_iff_iff, bne_iff_ne, bne_iff_ne]
                  exact not_congr (Eq.to_iff (u8i (n.getD k 0) 47))
                rw [this]
                have hff : f (k + 1) = false := by simpa using hf
                simp [starF, hg, over, h42b, hff]
            · rw [if_neg hg, if_pos (by omega), cut_set]
              rw [hstep]
              have hff : f (k + 1) = false := by simpa using hf
              have hgf : starF n c f k = false := by simpa using hg
              simp [starF, hgf, hff]
      · rw [if_neg hs]
        have hstep : step n f c = litF n c f := if_neg hs
        cases k with
        | zero =>
          rw [if_neg (by omega)]
          have e1 : tab (n.length + 1) (cut 0 (step n f c)) = tab (n.length + 1) (cut (0 + 1) (step n f c)) := by
            apply tab_congr
            intro j hj
            rw [hstep]
            unfold cut
            by_cases e : j = 0
            · subst e; simp [litF]
            · rw [if_neg (by omega), if_neg (by omega)]
          rw [e1]
        | succ k =>
          have hm : wrap64 (((k + 1 : Nat) : Int) - 1) = (k : Int) := by rw [w64 (by omega)]; omega
          rw [if_pos (by omega), hm, if_pos (by omega), if_pos (by omega), tab_rd _ f k (by omega)]
          by_cases hf : f k = true
          · rw [if_pos hf, if_pos (by omega), if_pos (by omega), if_pos (by omega), cut_set]
            rw [hstep, btn]
            have : (((n.getD k 0).toNat : Int) == (c.toNat : Int)) = (n.getD k 0 == c) := by
              rw [Bool.eq_iff_iff, beq_iff_eq, beq_iff_eq]
              exact Eq.to_iff (u8i (n.getD k 0) c)
            rw [this]
            simp [litF, hf]
          · rw [if_neg hf, if_pos (by omega), if_pos (by omega), cut_set]
            rw [hstep]
            have hff : f k = false := by simpa using hf
            simp [litF, hff]
    refine Ev.next (fun q => ?_) hj
    rw [names_Match.l1, if_pos (by omega), hbt2]
    by_cases h42 : c = 42
    · rw [if_pos (hbt.mpr h42)]
      have : (c == 42) = true := beq_iff_eq.mpr h42
      rw [this]; rfl
    · rw [if_neg (fun h => h42 (hbt.mp h))]
      have : (c == 42) = false := beq_eq_false_iff_ne.mpr h42
      rw [this]; rfl
theorem match_l0 (p n : List UInt8) (hp : p.length ≤ 1000000) (hn : n.length ≤ 1000000) :
    ∀ d i : Nat, i + d = p.length → ∀ f : Nat → Bool, Ev (fun q => names_Match.l0 q ⟨p.toArray⟩ ⟨n.toArray⟩ (tab (n.length + 1) f) (p.length : Int) (i : Int)) (rowF n (p.drop i) f n.length) := by
  intro d
  induction d with
  | zero =>
    intro i hi f
    refine Ev.now fun q => ?_
    rw [names_Match.l0, if_neg (by omega)]
    simp only [ba_size, tab_length]
    rw [if_pos (by omega), if_pos (by omega), tab_rd _ f _ (by omega), List.drop_eq_nil_iff.2 (by omega)]
    rfl
  | succ d ih =>
    intro i hi f
    have hil : i < p.length := by omega
    rw [List.drop_eq_getElem_cons hil]
    have hw : wrap64 ((i : Int) + 1) = ((i + 1 : Nat) : Int) := by rw [w64 (by omega)]; omega
    have H := ih (i + 1) (by omega) (step n f p[i])
    rw [← hw] at H
    have H2 := match_l1 p n hn f p[i] (p.length : Int) (i : Int) _ H (n.length + 1) 0 (by omega)
    refine Ev.next (fun q => ?_) H2
    have hwn : wrap64 ((n.length : Int) + 1) = ((n.length + 1 : Nat) : Int) := by rw [w64 (by omega)]; omega
    rw [names_Match.l0, if_pos (by omega)]
    simp only [ba_size, tab_length, hwn, Int.toNat_natCast]
    rw [if_pos (by omega), if_pos (by omega), if_pos (by omega), if_pos (by omega), btn, tab_false]
    rw [List.getD_eq_getElem?_getD, List.getElem?_eq_getElem hil]
    congr 2
theorem match_f (p n : List UInt8) (hp : p.length ≤ 1000000) (hn : n.length ≤ 1000000) :
    Ev (fun q => names_Match.f q ⟨p.toArray⟩ ⟨n.toArray⟩) (matchB p n) := by
  have H := match_l0 p n hp hn p.length 0 (by omega) f0
  refine Ev.same (fun q => ?_) H
  have hwn : wrap64 ((n.length : Int) + 1) = ((n.length + 1 : Nat) : Int) := by rw [w64 (by omega)]; omega
  unfold names_Match.f
  simp only [ba_size, hwn, Int.toNat_natCast, Option.bind_some, List.length_replicate]
  rw [if_pos (by omega), if_pos (by omega), if_pos (by omega), tab_false]
  congr 1
  rw [show Int.toNat 0 = 0 from rfl, tab_set]
  apply tab_congr
  intro j _
  unfold f0
  by_cases e : j = 0
  · subst e; rfl
  · rw [if_neg e]; exact (beq_eq_false_iff_ne.mpr e).symm
end Go.Proofs.YtnkibbfpmhgeaaaDoor.Pure
