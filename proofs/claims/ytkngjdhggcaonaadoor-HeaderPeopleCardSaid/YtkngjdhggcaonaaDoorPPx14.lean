-- PRINTED by print.py (a twelfth state) out of the translation. Not trusted: Lean checks it.
import Derived.Test.YtkngjdhggcaonaaDoorPPx0
import Derived.Test.YtkngjdhggcaonaaDoorPPx13
namespace Go.Proofs.YtkngjdhggcaonaaDoor.PP
open Go.RowKit Go.Proofs.YtkngjdhggcaonaaDoorW.PrintWords Go.Proofs.YtkngjdhggcaonaaDoorW.PrintLast Go.Proofs.YtkngjdhggcaonaaDoorW.PrintMore
attribute [local go_sem] max2_int min2_int max_two min_two max_three min_three max_four min_four   -- for this text's walks alone
open Go.Proofs.YtkngjdhggcaonaaDoor.My
set_option linter.unusedVariables false
set_option linter.unusedSimpArgs false

/-! ### header_Unfold: function 21 -/
def header_Unfold.f (a0 : ByteArray) : Option (ByteArray) := (strings_ReplaceAll.f a0 (⟨#[13]⟩ : ByteArray) (⟨#[]⟩ : ByteArray)).bind fun t139 => ((strings_ReplaceAll.f t139 (⟨#[10]⟩ : ByteArray) (⟨#[]⟩ : ByteArray)).bind fun t140 => ((strings_Trim.f t140 (⟨#[32, 9]⟩ : ByteArray)).bind fun t141 => (some t141)))
set_option maxHeartbeats 8000000 in
set_option maxRecDepth 100000 in
theorem header_Unfold.calls (a0 : ByteArray) (r : ByteArray) (w : World) (h : header_Unfold.f a0 = some r) :
  Calls Tryd.prog 21 #[.string a0] w fun e w' => e = .returned (.string r) ∧ Below w.heap.size w w' := by
 have HB := Aside0.mk (Below.refl w.heap.size w)
 have H : ((strings_ReplaceAll.f a0 (⟨#[13]⟩ : ByteArray) (⟨#[]⟩ : ByteArray)).bind fun t139 => ((strings_ReplaceAll.f t139 (⟨#[10]⟩ : ByteArray) (⟨#[]⟩ : ByteArray)).bind fun t140 => ((strings_Trim.f t140 (⟨#[32, 9]⟩ : ByteArray)).bind fun t141 => (some t141)))) = some r := h
 clear h
 replace H := Option.bind_eq_some_iff.mp H
 obtain ⟨t139, A20, H⟩ := H
 replace H : ((strings_ReplaceAll.f t139 (⟨#[10]⟩ : ByteArray) (⟨#[]⟩ : ByteArray)).bind fun t140 => ((strings_Trim.f t140 (⟨#[32, 9]⟩ : ByteArray)).bind fun t141 => (some t141))) = some r := H
 have A2 := Aside0.mk A20
 clear A20
 replace H := Option.bind_eq_some_iff.mp H
 obtain ⟨t140, A30, H⟩ := H
 replace H : ((strings_Trim.f t140 (⟨#[32, 9]⟩ : ByteArray)).bind fun t141 => (some t141)) = some r := H
 have A3 := Aside0.mk A30
 clear A30
 replace H := Option.bind_eq_some_iff.mp H
 obtain ⟨t141, A40, H⟩ := H
 replace H : (some t141) = some r := H
 have A4 := Aside0.mk A40
 clear A40
 obtain rfl := Option.some.inj H
 go_enter Tryd.func21, Tryd.ntmps21
 go_wp2_with (first | ((with_reducible refine gate_callee (f := 45) rfl ?_); refine goesL_ (some 4) rfl rfl Tryd.func45 (by kernel_rfl) rfl #[.string a0, .string (⟨#[13]⟩ : ByteArray), .string (⟨#[]⟩ : ByteArray)] rfl (by (try simp only [List.map_toArray, List.map_cons, List.map_nil]); first | done | rfl | (simp only [List.length_drop, List.length_take]; rfl)) ?_; (with_reducible refine (strings_ReplaceAll.calls a0 (⟨#[13]⟩ : ByteArray) (⟨#[]⟩ : ByteArray) t139 _ A2.out).mono ?_); rintro e w5 ⟨rfl, hb⟩; refine ⟨_, rfl, ?_⟩; have n0_ := Aside0.mk (below_step (by repeat (first | (with_reducible first | exact HB.out | apply below_alloc | apply pw_below_drewN | apply below_drew1) | exact HB.out)) hb); clear HB; have HB := n0_; clear n0_; (try clear hb); (try clear hb2); (try clear hk); (try clear hi)) | ((with_reducible refine gate_callee (f := 45) rfl ?_); refine goesL_ (some 5) rfl rfl Tryd.func45 (by kernel_rfl) rfl #[.string t139, .string (⟨#[10]⟩ : ByteArray), .string (⟨#[]⟩ : ByteArray)] rfl (by (try simp only [List.map_toArray, List.map_cons, List.map_nil]); first | done | rfl | (simp only [List.length_drop, List.length_take]; rfl)) ?_; (with_reducible refine (strings_ReplaceAll.calls t139 (⟨#[10]⟩ : ByteArray) (⟨#[]⟩ : ByteArray) t140 _ A3.out).mono ?_); rintro e w6 ⟨rfl, hb⟩; refine ⟨_, rfl, ?_⟩; have n0_ := Aside0.mk (below_step (by repeat (first | (with_reducible first | exact HB.out | apply below_alloc | apply pw_below_drewN | apply below_drew1) | exact HB.out)) hb); clear HB; have HB := n0_; clear n0_; (try clear hb); (try clear hb2); (try clear hk); (try clear hi)) | ((with_reducible refine gate_callee (f := 46) rfl ?_); refine goesL_ (some 7) rfl rfl Tryd.func46 (by kernel_rfl) rfl #[.string t140, .string (⟨#[32, 9]⟩ : ByteArray)] rfl (by (try simp only [List.map_toArray, List.map_cons, List.map_nil]); first | done | rfl | (simp only [List.length_drop, List.length_take]; rfl)) ?_; (with_reducible refine (strings_Trim.calls t140 (⟨#[32, 9]⟩ : ByteArray) t141 _ A4.out).mono ?_); rintro e w7 ⟨rfl, hb⟩; refine ⟨_, rfl, ?_⟩; have n0_ := Aside0.mk (below_step (by repeat (first | (with_reducible first | exact HB.out | apply below_alloc | apply pw_below_drewN | apply below_drew1) | exact HB.out)) hb); clear HB; have HB := n0_; clear n0_; (try clear hb); (try clear hb2); (try clear hk); (try clear hi)))
 go_ret
 exact ⟨by first | rfl | (simp [errW_none, errW_some] <;> rfl) | (simp [*, errW_none, errW_some] <;> rfl), by repeat (first | (with_reducible first | exact HB.out | apply below_alloc | apply pw_below_drewN | apply below_drew1) | exact HB.out)⟩

/-! ### words_Lower: function 74 -/
def words_Lower.f (a0 : ByteArray) : Option ByteArray := if a0.size ≤ 9223372036854775807 then some ⟨(lowL a0.data.toList).toArray⟩ else none
set_option maxHeartbeats 1000000 in
set_option maxRecDepth 100000 in
theorem words_Lower.calls (a0 r : ByteArray) (w : World) (h : words_Lower.f a0 = some r) :
  Calls Tryd.prog 74 #[.string a0] w fun e w' => e = .returned (.string r) ∧ Below w.heap.size w w' := by
 unfold words_Lower.f at h
 split at h
 case isFalse => cases h
 rename_i hs
 injection h with h
 have kb := fun W => print_bytes (P := Tryd.prog) 9 61 5 Tryd.underlying9 Tryd.underlying61 Tryd.underlying5 a0 W
 have HS := Aside0.mk h
 clear h
 go_enter Tryd.func74, Tryd.ntmps74
 go_wp2
 go_loopw [10] (fun v wr => ∃ k : Nat, k ≤ a0.size ∧ v = .int .i64 k ∧ Aside0 (ConvInv lowC a0 w.heap.size 5 k wr) ∧ Aside0 (Below w.heap.size w wr)) (fun v _ => a0.size - (intOf v).toNat)
 case atStart => exact ⟨0, Nat.zero_le _, rfl, ⟨ConvInv.start lowC w 5 a0⟩, ⟨bytes_below (Below.refl _ _) (Nat.le_refl _) 5 a0⟩⟩
 case round =>
  obtain ⟨k, hk, rfl, HI, HB⟩ := hrel
  clear kb
  by_cases hlt : k < a0.size
  ·
   obtain ⟨hc, hf⟩ := HI.out.cell hlt
   obtain ⟨c, hcc⟩ : ∃ c : Int, c = (a0[k].toNat : Int) := ⟨_, rfl⟩
   rw [← hcc] at hc
   have hc0 : 0 ≤ c := by omega
   have hc1 : c ≤ 255 := by have := a0[k].toNat_lt; omega
   have HC := Aside0.mk hcc
   clear hcc
   by_cases h1 : 65 ≤ c
   ·
    by_cases h2 : c ≤ 90
    ·
     have hp : ConvInv lowC a0 w.heap.size 5 (k + 1) (wr.setCell ⟨w.heap.size, k, none⟩ (.int .u8 (c + 32))) := by
      refine HI.out.put hlt (c + 32) ?_
      have h3 := HC.out
      have h4 : lowC a0[k] = a0[k] + 32 := by
       unfold lowC
       rw [if_pos ⟨UInt8.le_iff_toNat_le.2 (by simp; omega), UInt8.le_iff_toNat_le.2 (by simp; omega)⟩]
      rw [h4, UInt8.toNat_add, h3]
      simp; omega
     have HP := Aside0.mk hp
     clear hp
     have HB2 := Aside0.mk (HB.out.setCell (p := ⟨w.heap.size, k, none⟩) (Nat.le_refl _) (.int .u8 (c + 32)))
     go_wp2
     go_roundw
     case rel => exact ⟨k + 1, by omega, by go_num, HP, HB2⟩
     case measure => simp [intOf]; omega
    ·
     have hp : ConvInv lowC a0 w.heap.size 5 (k + 1) wr := by
      refine HI.out.same hlt ?_
      have h3 := HC.out
      unfold lowC
      rw [if_neg (fun h => h2 (by have := UInt8.le_iff_toNat_le.1 h.2; simp at this; omega))]
     have HP := Aside0.mk hp
     clear hp
     go_wp2
     go_roundw
     case rel => exact ⟨k + 1, by omega, by go_num, HP, HB⟩
     case measure => simp [intOf]; omega
   ·
    have hp : ConvInv lowC a0 w.heap.size 5 (k + 1) wr := by
     refine HI.out.same hlt ?_
     have h3 := HC.out
     unfold lowC
     rw [if_neg (fun h => h1 (by have := UInt8.le_iff_toNat_le.1 h.1; simp at this; omega))]
    have HP := Aside0.mk hp
    clear hp
    go_wp2
    go_roundw
    case rel => exact ⟨k + 1, by omega, by go_num, HP, HB⟩
    case measure => simp [intOf]; omega
  ·
   obtain rfl : k = a0.size := by omega
   have hcv : ∀ c : Nat, (convert 61 9 (.slice (some ⟨w.heap.size, 0, none⟩) a0.size c)).run Tryd.prog wr = .ok (.string r) wr := by
    intro c
    rw [← HS.out, lowL, ← strOf_map]
    exact string_of_reads (P := Tryd.prog) Tryd.underlying61 Tryd.underlying5 Tryd.underlying9 (HI.out.reads hs)
   go_wp2
   go_ret
   exact ⟨rfl, HB.out⟩

/-! ### header_among: function 48 -/
def lowS (s : ByteArray) : ByteArray := ⟨(lowL s.data.toList).toArray⟩
def header_among.f (a0 : ByteArray) (l1 : List ByteArray) : Option Bool :=
 if a0.size ≤ 9223372036854775807 then (if l1.length ≤ 9223372036854775807 then (if l1.all (fun x => decide (x.size ≤ 9223372036854775807)) = true then some (l1.any fun x => (lowS x).toList == (lowS a0).toList) else none) else none) else none
theorem low_ok (a0 : ByteArray) (w : World) (h : a0.size ≤ 9223372036854775807) :
  Calls Tryd.prog 74 #[.string a0] w fun e w' => e = .returned (.string (lowS a0)) ∧ Below w.heap.size w w' :=
 words_Lower.calls a0 (lowS a0) w (by rw [words_Lower.f, if_pos h]; rfl)
set_option maxHeartbeats 1000000 in
set_option maxRecDepth 100000 in
theorem among1_ok (n x : ByteArray) (B : Nat) (w : World) (hB : B < w.heap.size) (hc : w.cell? ⟨B, 0, none⟩ = some (.string n)) (hn : n.size ≤ 9223372036854775807) (hx : x.size ≤ 9223372036854775807) :
  Calls Tryd.prog 73 #[.string x, .pointer (some ⟨B, 0, none⟩)] w fun e w' => e = .returned (.bool ((lowS x).toList == (lowS n).toList)) ∧ Below w.heap.size w w' := by
 go_enter Tryd.func73, Tryd.ntmps73
 go_wp2_with fail
 have hcd : w.drew.cell? ⟨B, 0, none⟩ = some (.string n) := hc
 have hBd : B < w.drew.heap.size := hB
 go_region_with (go_at_call 74; first | (with_reducible refine (low_ok x _ hx).mono ?_; rintro e w1 ⟨rfl, hb1⟩; have hc1 := (hb1.cell (p := ⟨B, 0, none⟩) hBd).trans hcd) | (with_reducible refine (low_ok n _ hn).mono ?_; rintro e w2 ⟨rfl, hb2⟩))
 all_goals
  have hb3 := (Below.refl _ w).drew.trans (hb1.trans (hb2.mono hb1.size))
  have HB3 := Aside0.mk hb3
  clear hb1 hb2 hb3 hc1 hcd
  go_wp2_with fail
  go_ret
  exact ⟨rfl, HB3.out⟩
def amP (n x : ByteArray) : Bool := (lowS x).toList == (lowS n).toList
set_option maxHeartbeats 1000000 in
set_option maxRecDepth 100000 in
theorem idxFn_ok (n : ByteArray) (A : Option Addr) (c : Nat) (l : List ByteArray) (B : Nat) (w : World) (hr : Kd.C Kd.string w A l.length l) (hl : l.length ≤ 9223372036854775807) (hB : B < w.heap.size) (hc : w.cell? ⟨B, 0, none⟩ = some (.string n)) (hn : n.size ≤ 9223372036854775807) (hx : ∀ x ∈ l, x.size ≤ 9223372036854775807) :
  Calls Tryd.prog 89 #[.slice A l.length c, .func (.func 73) #[] #[.pointer (some ⟨B, 0, none⟩)]] w fun e w' => (∃ ix : Int, e = .returned (.int .i64 ix) ∧ decide (0 ≤ ix) = l.any (amP n)) ∧ Below w.heap.size w w' := by
 have HR := Aside0.mk hr
 have HX := Aside0.mk hx
 clear hr hx
 go_enter Tryd.func89, Tryd.ntmps89
 go_wp2_with fail
 go_loopg [5, 8] (l.length + 1) (fun kq _ v8 wr => ∃ kk : Nat, kk ≤ l.length ∧ l.length + 1 ≤ kk + kq ∧ v8 = .int .i64 kk ∧ Aside0 (Below w.heap.size w wr) ∧ Aside0 (l.any (amP n) = (l.drop kk).any (amP n)))
 case atStart => exact ⟨0, Nat.zero_le _, by omega, rfl, ⟨Below.refl _ w⟩, ⟨by simp⟩⟩
 case round =>
  obtain ⟨kk, hkk, hkq, rfl, HB, HA⟩ := hrel
  by_cases hp : kk < l.length
  ·
   obtain ⟨k, rfl⟩ : ∃ k, gk = k + 1 := ⟨gk - 1, by omega⟩
   have hi0 : (0 : Int) ≤ (kk : Int) := by omega
   have hi1 : (kk : Int) < (l.length : Int) := by omega
   have hi2 : decide ((kk : Int) < (l.length : Int)) = true := decide_eq_true hi1
   obtain ⟨ad, e0, hx0⟩ := Kd.at_string HR.out kk hi0 hi1
   cases e0
   replace hx0 := (HB.out.cell (World.block_lt_of_cell? w _ hx0)).trans hx0
   have hd : l.drop kk = l[kk] :: l.drop (kk + 1) := List.drop_eq_getElem_cons hp
   have hrd : rdOf ByteArray.empty l (kk : Int) = l[kk] := by simp [rdOf, hp]
   rw [hrd] at hx0
   have hs := HX.out l[kk] (List.getElem_mem hp)
   have hA := HA.out
   rw [hd, List.any_cons] at hA
   obtain ⟨x, hxx⟩ : ∃ x, x = l[kk] := ⟨_, rfl⟩
   rw [← hxx] at hx0 hs hA
   have hcB := (HB.out.cell (p := ⟨B, 0, none⟩) hB).trans hc
   have hBr := Nat.lt_of_lt_of_le hB HB.out.size
   have HC := Aside0.mk (among1_ok n x B wr hBr hcB hn hs)
   have HA2 := Aside0.mk hA
   clear hA hd hrd hxx hcB hs HA
   rw [Int.toNat_natCast] at hx0
   go_wp2_with fail
   refine HC.out.mono ?_
   rintro e w1 ⟨rfl, hb1⟩
   have HB1 := Aside0.mk (HB.out.trans (hb1.mono HB.out.size))
   clear hb1 HC HB hx0 hBr
   cases hq : amP n x with
   | true =>
    have hq2 : ((lowS x).toList == (lowS n).toList) = true := hq
    rw [hq, Bool.true_or] at HA2
    clear hq
    go_wp2_with fail
    go_ret
    exact ⟨⟨_, rfl, by rw [HA2.out]; exact decide_eq_true hi0⟩, HB1.out⟩
   | false =>
    have hq2 : ((lowS x).toList == (lowS n).toList) = false := hq
    rw [hq, Bool.false_or] at HA2
    clear hq
    go_wp2_with fail
    go_roundg k
    case measure => omega
    case rel => exact ⟨kk + 1, by omega, by omega, by go_num, HB1, HA2⟩
  ·
   have hnil : l.drop kk = [] := List.drop_eq_nil_iff.2 (by omega)
   have hA := HA.out
   rw [hnil] at hA
   have HA2 := Aside0.mk hA
   have hi1 : ¬ (kk : Int) < (l.length : Int) := by omega
   have hi2 : decide ((kk : Int) < (l.length : Int)) = false := decide_eq_false hi1
   clear hA hnil HA
   go_wp2_with fail
   go_ret
   exact ⟨⟨_, rfl, by rw [HA2.out]; rfl⟩, HB.out⟩
theorem ctnFn_ok (n : ByteArray) (A : Option Addr) (c : Nat) (l : List ByteArray) (B : Nat) (w : World) (hr : Kd.C Kd.string w A l.length l) (hl : l.length ≤ 9223372036854775807) (hB : B < w.heap.size) (hc : w.cell? ⟨B, 0, none⟩ = some (.string n)) (hn : n.size ≤ 9223372036854775807) (hx : ∀ x ∈ l, x.size ≤ 9223372036854775807) :
  Calls Tryd.prog 72 #[.slice A l.length c, .func (.func 73) #[] #[.pointer (some ⟨B, 0, none⟩)]] w fun e w' => e = .returned (.bool (l.any (amP n))) ∧ Below w.heap.size w w' := by
 have HC := Aside0.mk (idxFn_ok n A c l B w hr hl hB hc hn hx)
 clear hr hx hc
 go_enter Tryd.func72, Tryd.ntmps72
 go_wp2_with fail
 refine HC.out.mono ?_
 rintro e w1 ⟨⟨ix, rfl, hix⟩, hb1⟩
 have HX := Aside0.mk hix
 have HB := Aside0.mk hb1
 clear hb1 hix HC
 go_wp2_with fail
 go_ret
 exact ⟨by rw [← HX.out]; rfl, HB.out⟩
theorem header_among.calls (a0 : ByteArray) (A1 : Option Addr) (c1 : Nat) (l1 : List ByteArray) (r : Bool) (w : World) (hr1 : Kd.C Kd.string w A1 l1.length l1) (hc1 : l1.length ≤ c1) (h : header_among.f a0 l1 = some r) :
  Calls Tryd.prog 48 #[.string a0, .slice A1 l1.length c1] w fun e w' => e = .returned (.bool r) ∧ Below w.heap.size w w' := by
 unfold header_among.f at h
 split at h
 case isFalse => cases h
 rename_i h1
 split at h
 case isFalse => cases h
 rename_i h2
 split at h
 case isFalse => cases h
 rename_i h3
 injection h with h
 have hb0 := (Below.refl w.heap.size w).alloc (Nat.le_refl _) (.cells #[.string a0] 9)
 have HC := Aside0.mk (ctnFn_ok a0 A1 c1 l1 w.heap.size (w.alloc (.cells #[.string a0] 9)) (Kd.C_below hr1 hb0) h2 (by simp) (by simp) h1 (fun x hx => of_decide_eq_true (List.all_eq_true.1 h3 x hx)))
 have H := Aside0.mk h
 have HB0 := Aside0.mk hb0
 clear hr1 h h1 h2 h3 hb0
 go_enter Tryd.func48, Tryd.ntmps48
 go_wp2_with fail
 refine HC.out.mono ?_
 rintro e w1 ⟨rfl, hb1⟩
 have HB := Aside0.mk (HB0.out.trans (hb1.mono HB0.out.size))
 clear hb1 HC
 go_wp2_with fail
 go_ret
 exact ⟨by rw [← H.out]; rfl, HB.out⟩


end Go.Proofs.YtkngjdhggcaonaaDoor.PP
