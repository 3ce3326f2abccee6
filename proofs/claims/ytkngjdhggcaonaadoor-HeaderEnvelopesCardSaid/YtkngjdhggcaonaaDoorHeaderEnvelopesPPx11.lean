/- YtkngjdhggcaonaaDoorPPx11, as far as HeaderEnvelopes needs it (prune.py). -/
import Derived.Test.YtkngjdhggcaonaaDoorHeaderEnvelopesPPx0
import Derived.Test.YtkngjdhggcaonaaDoorHeaderEnvelopesPPx10
namespace Go.Proofs.YtkngjdhggcaonaaDoor.PP
open Go.RowKit Go.Proofs.YtkngjdhggcaonaaDoorW.PrintWords Go.Proofs.YtkngjdhggcaonaaDoorW.PrintLast Go.Proofs.YtkngjdhggcaonaaDoorW.PrintMore
attribute [local go_sem] max2_int min2_int max_two min_two max_three min_three max_four min_four   -- for this text's walks alone
open Go.Proofs.YtkngjdhggcaonaaDoor.My
set_option linter.unusedVariables false
set_option linter.unusedSimpArgs false
theorem inf8 : (Tryd.prog.info? 5).map (fun i => (i.zero, i.size, i.bytes)) = some (some (.int .u8 0), 1, 1) := by kernel_rfl
abbrev Pc (g : Nat) (w : World) (bs : List UInt8) (nm : ByteArray) (an cl : Bool) : Prop := IsPc 65 5 g w bs nm an cl
abbrev Kp (g : Nat) (w w' : World) : Prop := Kept 5 g w w'
set_option maxHeartbeats 1000000 in
set_option maxRecDepth 100000 in
theorem say_ok (g : Nat) (c : UInt8) (bs : List UInt8) (nm : ByteArray) (an cl : Bool) (w : World) (hI : Pc g w bs nm an cl) (hb : bs.length ≤ 1000000000000) :
  Calls Tryd.prog 63 #[.pointer (some ⟨g, 0, none⟩), .int .u8 c.toNat] w fun e w' => e = .returned (.tuple #[]) ∧ Pc g w' (bs ++ [c]) nm an cl ∧ Kp g w w' := by
 have hl := hI.lt
 obtain ⟨v, h1, h2⟩ := hI
 obtain ⟨i0, hi, hzz⟩ := Option.map_eq_some_iff.1 inf8
 simp only [Prod.mk.injEq] at hzz
 obtain ⟨hz0, hz1, hz2⟩ := hzz
 have hc : w.cell? ⟨g, 0, none⟩ = some v := by simp [World.cell?, h1]
 have H1 := Aside0.mk h1
 have H2 := Aside0.mk h2
 have HI := Aside0.mk hi
 have HZ := Aside0.mk (And.intro hz0 (And.intro hz1 hz2))
 clear h1 h2 hi hz0 hz1 hz2
 go_enter Tryd.func63, Tryd.ntmps63
 go_wp2_with (first | ((with_reducible refine gate_dst (N := 11) rfl ?_); refine wpList_append_own _ rfl _ _ 61 rfl (g + 1) 5 i0 (.int .u8 0) 1 1 Tryd.underlying61 HI.out HZ.out.1 HZ.out.2.1 HZ.out.2.2 rfl (by omega) v bs.length (Lib.byteCells bs) rfl (H2.out.alloc _) ⟨w.heap.size, 0, none⟩ 1 1 (Lib.byteCells [c]) rfl rfl ?hn (Lib.byteCells_one _) (by unfold maxLen; omega) (by omega) (by simp; omega) ?_))
 case hn =>
  intro j u hj
  cases j with
  | zero => simp [Lib.byteCells] at hj; subst hj; rw [add_plain]; exact (blk_cell (heap_alloc_new w _) 0).trans rfl
  | succ j => simp [Lib.byteCells] at hj
 intro v' w1 h3 h4 h5
 obtain ⟨g2, cap2, e2⟩ : ∃ g2 cap2, v' = .slice (some ⟨g2, 0, none⟩) (bs.length + 1) cap2 := by
  rcases h3.2 with ⟨_, h0⟩ | ⟨g', cap', cur, e, _⟩
  ·
   omega
  ·
   exact ⟨g', cap', e⟩
 subst e2
 have hb0 : w1.heap[g]? = w.heap[g]? := (h4.block g (by simp; omega) (fun e' => by rcases ownNe H2.out with h | h; rw [h] at e'; cases e'; exact h e'.symm)).trans (Below.heap_alloc w _ g hl)
 have hc1 : w1.cell? ⟨g, 0, none⟩ = some v := by simp [World.cell?, hb0, H1.out]
 have hf1 : w1.frozen? ⟨g, 0, none⟩ = false := by simp [World.frozen?, hb0, H1.out]
 have H3 := Aside0.mk h3
 have H4 := Aside0.mk h4
 have HL := Aside0.mk hl
 clear h3 h4 h5 hb0 hc hl
 go_wp2
 go_end0
 refine ⟨rfl, IsPc.put (w := w.alloc (.cells #[.int .u8 c.toNat] 5)) ((Below.heap_alloc w _ g HL.out).trans H1.out) (H2.out.alloc _) H4.out (m := bs.length + 1) (bs' := bs ++ [c]) (by rw [Lib.byteCells_append]; exact H3.out) (by simp), ?_⟩
 exact ((((Kept.refl 5 g w).alloc (Nat.le_of_lt HL.out) _).grown (by simp; have := HL.out; omega) (H2.out.alloc _) H4.out).setCell 0 _)
/-- What is said, as a text. -/
theorem pc_str {g : Nat} {w : World} {bs : List UInt8} {nm : ByteArray} {an cl : Bool} (h : Pc g w bs nm an cl) (hb : bs.length ≤ 9223372036854775807) :
  ∃ v, w.cell? ⟨g, 0, none⟩ = some v ∧ (convert 61 9 v).run Tryd.prog w = .ok (.string ⟨bs.toArray⟩) w := by
 obtain ⟨v, h1, h2⟩ := h
 refine ⟨v, by simp [World.cell?, h1], ?_⟩
 have hn : (Lib.byteCells bs) = nums .u8 (bs.map fun b => (b.toNat : Int)) := by simp [Lib.byteCells, nums]
 rw [hn] at h2
 rw [← strOf_map]
 exact own_string (P := Tryd.prog) Tryd.underlying61 Tryd.underlying5 Tryd.underlying9 h2
theorem tell_ok (g : Nat) (c : UInt8) (bs : List UInt8) (nm : ByteArray) (an cl : Bool) (w : World) (hI : Pc g w bs nm an cl) (hb : bs.length ≤ 1000000000000) :
  Calls Tryd.prog 42 #[.pointer (some ⟨g, 0, none⟩), .int .u8 c.toNat] w fun e w' => e = .returned (.tuple #[]) ∧ Pc g w' (if cl then bs else bs ++ [c]) nm an cl ∧ Kp g w w' := by
 have hc3 := hI.cell3
 have HI := Aside0.mk hI
 clear hI
 cases cl with
 | true =>
  go_enter Tryd.func42, Tryd.ntmps42
  go_wp2
  go_end0
  exact ⟨rfl, HI.out, Kept.refl _ g w⟩
 | false =>
  go_enter Tryd.func42, Tryd.ntmps42
  go_wp2_with fail
  refine (say_ok g c bs nm an false _ HI.out hb).mono ?_
  rintro e w1 ⟨rfl, h1, hk1⟩
  have H1 := Aside0.mk h1
  have HK := Aside0.mk hk1
  clear h1 hk1
  go_wp2_with fail
  go_end0
  exact ⟨rfl, H1.out, HK.out⟩
def takeL (bs : List UInt8) : List UInt8 := Lib.trimS bs [9, 10, 13, 32]
set_option maxHeartbeats 1000000 in
theorem take_ok (g : Nat) (bs : List UInt8) (nm : ByteArray) (an cl : Bool) (w : World) (hI : Pc g w bs nm an cl) (hb : bs.length ≤ 1000000000000) :
  Calls Tryd.prog 40 #[.pointer (some ⟨g, 0, none⟩)] w fun e w' => e = .returned (.string ⟨(takeL bs).toArray⟩) ∧ Pc g w' [] nm an cl ∧ Kp g w w' := by
 obtain ⟨v, hc, hcv⟩ := pc_str hI (by omega)
 have hf := hI.frozen 0
 have HI := Aside0.mk hI
 have T := fun W => trim_any ⟨bs.toArray⟩ ⟨#[9, 10, 13, 32]⟩ W (by simp [ByteArray.size]; omega) (by decide) (by
  intro j b hj
  have h0 : ∀ b, b ∈ ([9, 10, 13, 32] : List UInt8) → b.toNat < 128 := by decide
  exact h0 b (List.mem_of_getElem? hj))
 clear hI
 go_enter Tryd.func40, Tryd.ntmps40
 go_wp2_with fail
 refine (T _).mono ?_
 rintro e w1 ⟨rfl, hb1⟩
 have h1 := HI.out.later hb1
 have hc1 : w1.cell? ⟨g, 0, none⟩ = some v := (hb1.cell (p := ⟨g, 0, none⟩) HI.out.lt).trans hc
 have hf1 := h1.frozen 0
 have HK := Aside0.mk ((Kept.refl 5 g w).later (Nat.le_of_lt HI.out.lt) hb1)
 have H1 := Aside0.mk h1
 clear h1 hb1 hc hf T hcv
 go_wp2_with fail
 go_ret
 exact ⟨rfl, H1.out.clear, HK.out.setCell 0 _⟩
/-- What stands between quotes from a place on, and how far behind it the reading goes on. -/
def quoF : List UInt8 → List UInt8 × Nat
 | [] => ([], 1)
 | [c] => if c = 34 then ([], 1) else ([c], 2)
 | c :: d :: r => if c = 34 then ([], 1) else if c = 92 then (d :: (quoF r).1, (quoF r).2 + 2) else (c :: (quoF (d :: r)).1, (quoF (d :: r)).2 + 1)
theorem quoF_end (r : List UInt8) (h : r = []) : quoF r = ([], 1) := by subst h; rfl
theorem quoF_quote (c : UInt8) (r : List UInt8) (h : c = 34) : quoF (c :: r) = ([], 1) := by
 cases r with
 | nil => rw [quoF, if_pos h]
 | cons d r => rw [quoF, if_pos h]
theorem quoF_esc (c d : UInt8) (r : List UInt8) (h : c ≠ 34) (h2 : c = 92) : quoF (c :: d :: r) = (d :: (quoF r).1, (quoF r).2 + 2) := by rw [quoF, if_neg h, if_pos h2]
theorem quoF_plain (c : UInt8) (r : List UInt8) (h : c ≠ 34) (h2 : c ≠ 92 ∨ r = []) : quoF (c :: r) = (c :: (quoF r).1, (quoF r).2 + 1) := by
 cases r with
 | nil =>
  show (if c = 34 then ([], 1) else ([c], 2)) = _
  rw [if_neg h]; rfl
 | cons d r =>
  rcases h2 with h2 | h2
  ·
   rw [quoF, if_neg h, if_neg h2]
  ·
   cases h2
theorem quoF_len : ∀ (n : Nat) (r : List UInt8), r.length ≤ n → (quoF r).2 ≤ r.length + 1 ∧ (quoF r).1.length ≤ r.length ∧ 1 ≤ (quoF r).2
 | _, [], _ => by simp [quoF]
 | _, [c], _ => by unfold quoF; split <;> simp
 | 0, c :: d :: r, h => by simp at h
 | n + 1, c :: d :: r, h => by
  rw [quoF]
  have h1 := quoF_len n r (by simp at h; omega)
  have h2 := quoF_len n (d :: r) (by simp at h ⊢; omega)
  simp only [List.length_cons] at h1 h2 ⊢
  split
  ·
   simp
  ·
   split
   ·
    simp only [List.length_cons]; omega
   ·
    simp only [List.length_cons]; omega
theorem u8ne {c d : UInt8} (h : c ≠ d) : ¬ (c.toNat : Int) = (d.toNat : Int) := fun e => h (UInt8.toNat_inj.1 (by omega))
set_option maxHeartbeats 2000000 in
set_option maxRecDepth 100000 in
theorem quoted_ok (g : Nat) (s : ByteArray) (i : Nat) (bs : List UInt8) (nm : ByteArray) (an cl : Bool) (w : World) (hI : Pc g w bs nm an cl) (hs : s.size ≤ 1000000000) (hi : i < s.size) (hb : bs.length ≤ 10000000000) :
  Calls Tryd.prog 38 #[.pointer (some ⟨g, 0, none⟩), .string s, .int .i64 i] w fun e w' =>
   e = .returned (.int .i64 ((i + 1 + (quoF (s.data.toList.drop (i + 1))).2 : Nat) : Int)) ∧ Pc g w' (if cl then bs else bs ++ (quoF (s.data.toList.drop (i + 1))).1) nm an cl ∧ Kp g w w' := by
 obtain ⟨T, hT⟩ : ∃ T, T = (if cl then bs else bs ++ (quoF (s.data.toList.drop (i + 1))).1) := ⟨_, rfl⟩
 obtain ⟨Z, hZ⟩ : ∃ Z, Z = i + 1 + (quoF (s.data.toList.drop (i + 1))).2 := ⟨_, rfl⟩
 rw [← hT, ← hZ]
 have HT := Aside0.mk hT
 have HZ := Aside0.mk hZ
 have HI := Aside0.mk hI
 have hsz : s.data.toList.length = s.size := by simp
 have HSZ := Aside0.mk hsz
 clear hT hZ hI hsz
 go_enter Tryd.func38, Tryd.ntmps38
 go_wp2_with fail
 go_loopg [2] (s.size + 1) (fun kq v2 wr => ∃ (j : Nat) (b' : List UInt8), s.size + 2 ≤ j + kq ∧ j ≤ s.size ∧ v2 = .int .i64 j ∧ Aside0 (Pc g wr b' nm an cl) ∧ Aside0 (Kp g w wr) ∧ Aside0 ((if cl then b' else b' ++ (quoF (s.data.toList.drop j)).1) = T) ∧ Aside0 (j + (quoF (s.data.toList.drop j)).2 = Z) ∧ Aside0 (b'.length ≤ 10000000000 + j))
 case atStart => exact ⟨i + 1, bs, by omega, by omega, by go_num, ⟨HI.out⟩, ⟨Kept.refl _ g w⟩, ⟨HT.out.symm⟩, ⟨HZ.out.symm⟩, ⟨by omega⟩⟩
 case round =>
  obtain ⟨j, b', hjk, hjs, rfl, HJ, HK, HT2, HZ2, HB⟩ := hrel
  clear HI HT HZ
  by_cases hp : j < s.size
  ·
   obtain ⟨k, rfl⟩ : ∃ k, gk = k + 1 := ⟨gk - 1, by omega⟩
   have hil : j < s.data.toList.length := by rw [HSZ.out]; exact hp
   obtain ⟨c, hc⟩ : ∃ c, c = s[j]'hp := ⟨_, rfl⟩
   have hci : s.data.toList[j] = c := by rw [hc]; exact Array.getElem_toList _
   have hd : s.data.toList.drop j = c :: s.data.toList.drop (j + 1) := by rw [List.drop_eq_getElem_cons hil, hci]
   have hi1 : (0 : Int) ≤ (j : Int) := by omega
   have hi2 : (j : Int) < (s.size : Int) := by omega
   have ht := HT2.out
   have hz := HZ2.out
   rw [hd] at ht hz
   clear HT2 HZ2
   by_cases h34 : c = 34
   ·
    rw [quoF_quote c _ h34] at ht hz
    simp only [List.append_nil, ite_self] at ht hz
    have HT3 := Aside0.mk ht
    have HZ3 := Aside0.mk hz
    have hcb : (((s[j]'hp).toNat : Int) != 34) = false := by rw [← hc, h34]; rfl
    clear hd ht hz hci hil hc h34
    go_wp2_with fail
    go_ret
    exact ⟨by rw [← HZ3.out]; rfl, HT3.out ▸ HJ.out, HK.out⟩
   ·
    have hcb : (((s[j]'hp).toNat : Int) != 34) = true := by rw [← hc, bne_iff_ne]; exact u8ne (d := 34) h34
    by_cases h92 : c = 92
    ·
     have h92b : (((s[j]'hp).toNat : Int) == 92) = true := by rw [← hc, h92]; rfl
     by_cases hj1 : j + 1 < s.size
     ·
      have hil1 : j + 1 < s.data.toList.length := by rw [HSZ.out]; exact hj1
      obtain ⟨d, hdd⟩ : ∃ d, d = s[j + 1]'hj1 := ⟨_, rfl⟩
      have hdi : s.data.toList[j + 1] = d := by rw [hdd]; exact Array.getElem_toList _
      have hd1 : s.data.toList.drop (j + 1) = d :: s.data.toList.drop (j + 2) := by rw [List.drop_eq_getElem_cons hil1, hdi]
      rw [hd1, quoF_esc c d _ h34 h92] at ht hz
      have HT3 := Aside0.mk ht
      have HZ3 := Aside0.mk hz
      have HD := Aside0.mk hdd
      have hi3 : (j : Int) + 1 < (s.size : Int) := by omega
      have hi4 : decide ((j : Int) + 1 < (s.size : Int)) = true := decide_eq_true hi3
      have hi5 : (0 : Int) ≤ (j : Int) + 1 := by omega
      clear hd hd1 ht hz hci hil hil1 hdi hc h34 h92 hdd
      go_wp2_with fail
      rw [← HD.out]
      refine (tell_ok g d b' nm an cl _ HJ.out (by have := HB.out; omega)).mono ?_
      rintro e w1 ⟨rfl, h1, hk1⟩
      have H1 := Aside0.mk h1
      have HK1 := Aside0.mk (HK.out.trans hk1)
      have HB1 := Aside0.mk (show (if cl then b' else b' ++ [d]).length ≤ 10000000000 + (j + 2) by have := HB.out; split <;> simp <;> omega)
      clear h1 hk1 HJ HK HB
      go_wp2_with fail
      go_roundg k
      case measure => omega
      case rel => exact ⟨j + 2, _, by omega, by omega, by go_num, H1, HK1, ⟨by rw [← HT3.out]; cases cl <;> simp⟩, ⟨by rw [← HZ3.out]; omega⟩, HB1⟩
     ·
      have hnil : s.data.toList.drop (j + 1) = [] := List.drop_eq_nil_iff.2 (by rw [HSZ.out]; omega)
      rw [quoF_plain c _ h34 (Or.inr hnil)] at ht hz
      have HT3 := Aside0.mk ht
      have HZ3 := Aside0.mk hz
      have HC := Aside0.mk hc
      have hi3 : ¬ (j : Int) + 1 < (s.size : Int) := by omega
      have hi4 : decide ((j : Int) + 1 < (s.size : Int)) = false := decide_eq_false hi3
      clear hd ht hz hci hil hc h34 h92 hnil
      go_wp2_with fail
      rw [← HC.out]
      refine (tell_ok g c b' nm an cl _ HJ.out (by have := HB.out; omega)).mono ?_
      rintro e w1 ⟨rfl, h1, hk1⟩
      have H1 := Aside0.mk h1
      have HK1 := Aside0.mk (HK.out.trans hk1)
      have HB1 := Aside0.mk (show (if cl then b' else b' ++ [c]).length ≤ 10000000000 + (j + 1) by have := HB.out; split <;> simp <;> omega)
      clear h1 hk1 HJ HK HB
      go_wp2_with fail
      go_roundg k
      case measure => omega
      case rel => exact ⟨j + 1, _, by omega, by omega, by go_num, H1, HK1, ⟨by rw [← HT3.out]; cases cl <;> simp⟩, ⟨by rw [← HZ3.out]; omega⟩, HB1⟩
    ·
     have h92b : (((s[j]'hp).toNat : Int) == 92) = false := by rw [← hc, beq_eq_false_iff_ne]; exact u8ne (d := 92) h92
     rw [quoF_plain c _ h34 (Or.inl h92)] at ht hz
     have HT3 := Aside0.mk ht
     have HZ3 := Aside0.mk hz
     have HC := Aside0.mk hc
     clear hd ht hz hci hil hc h34 h92
     go_wp2_with fail
     rw [← HC.out]
     refine (tell_ok g c b' nm an cl _ HJ.out (by have := HB.out; omega)).mono ?_
     rintro e w1 ⟨rfl, h1, hk1⟩
     have H1 := Aside0.mk h1
     have HK1 := Aside0.mk (HK.out.trans hk1)
     have HB1 := Aside0.mk (show (if cl then b' else b' ++ [c]).length ≤ 10000000000 + (j + 1) by have := HB.out; split <;> simp <;> omega)
     clear h1 hk1 HJ HK HB
     go_wp2_with fail
     go_roundg k
     case measure => omega
     case rel => exact ⟨j + 1, _, by omega, by omega, by go_num, H1, HK1, ⟨by rw [← HT3.out]; cases cl <;> simp⟩, ⟨by rw [← HZ3.out]; omega⟩, HB1⟩
  ·
   have hnil : s.data.toList.drop j = [] := List.drop_eq_nil_iff.2 (by rw [HSZ.out]; omega)
   have ht := HT2.out
   have hz := HZ2.out
   rw [hnil, quoF_end _ rfl] at ht hz
   simp only [List.append_nil, ite_self] at ht hz
   have HT3 := Aside0.mk ht
   have HZ3 := Aside0.mk hz
   have hi2 : ¬ (j : Int) < (s.size : Int) := by omega
   have hi4 : decide ((j : Int) < (s.size : Int)) = false := decide_eq_false hi2
   clear ht hz hnil HT2 HZ2
   go_wp2_with fail
   go_ret
   exact ⟨by rw [← HZ3.out]; rfl, HT3.out ▸ HJ.out, HK.out⟩
/-- What a piece is: name, box, host; is it one? -/
def endF (bs : List UInt8) (nm : ByteArray) (an : Bool) : ByteArray × ByteArray × ByteArray :=
 let ix := Lib.lastIndexByte ⟨(takeL bs).toArray⟩ 64
 ((if an then nm else ⟨#[]⟩), (if 0 ≤ ix then (⟨(takeL bs).toArray⟩ : ByteArray).extract 0 ix.toNat else ⟨(takeL bs).toArray⟩), (if 0 ≤ ix then (⟨(takeL bs).toArray⟩ : ByteArray).extract (ix.toNat + 1) (takeL bs).length else ⟨#[]⟩))
def isF (a : ByteArray × ByteArray × ByteArray) : Bool := !a.1.toList.isEmpty || (!a.2.1.toList.isEmpty || !a.2.2.toList.isEmpty)
theorem takeL_len (bs : List UInt8) : (takeL bs).length ≤ bs.length := by
 unfold takeL Lib.trimS Lib.trimLeftS Lib.trimRightS
 refine Nat.le_trans (List.dropWhile_sublist _).length_le ?_
 rw [List.length_reverse]
 refine Nat.le_trans (List.dropWhile_sublist _).length_le ?_
 rw [List.length_reverse]
 exact Nat.le_refl _
theorem eqAdr (d : Nat) (w : World) (x0 y0 x1 y1 x2 y2 : ByteArray) :
  (Op.equalIn (d + 2) 33 (.agg #[.string x0, .string x1, .string x2]) (.agg #[.string y0, .string y1, .string y2])).run Tryd.prog w = .ok (x0.toList == y0.toList && (x1.toList == y1.toList && (x2.toList == y2.toList))) w := by
 refine eqA_of Tryd.underlying33 (by kernel_rfl) ?_
 refine eqf_cons (by rfl) (by go_simp; rfl) (by go_simp; rfl) (by go_simp) ?_
 refine eqf_cons (by rfl) (by go_simp; rfl) (by go_simp; rfl) (by go_simp) ?_
 exact eqf_last (by rfl) (by go_simp; rfl) (by go_simp; rfl) (by go_simp)
attribute [local go_sem high] eqAdr
set_option maxHeartbeats 4000000 in
set_option maxRecDepth 100000 in
theorem end_ok (g : Nat) (bs : List UInt8) (nm : ByteArray) (an cl : Bool) (w : World) (hI : Pc g w bs nm an cl) (hb : bs.length ≤ 1000000000000) :
  Calls Tryd.prog 41 #[.pointer (some ⟨g, 0, none⟩)] w fun e w' =>
   e = .returned (.tuple #[.agg #[.string (endF bs nm an).1, .string (endF bs nm an).2.1, .string (endF bs nm an).2.2], .bool (isF (endF bs nm an))]) ∧ Pc g w' [] nm an cl ∧ Kp g w w' := by
 have hl := hI.lt
 have hl1 : g < w.heap.size + 1 := by omega
 have hc1 := hI.cell1
 have hc2 := hI.cell2
 have HI := Aside0.mk hI
 obtain ⟨F, hF⟩ : ∃ F, F = endF bs nm an := ⟨_, rfl⟩
 rw [← hF]
 have HF := Aside0.mk hF
 clear hI hF
 obtain ⟨S, hS⟩ : ∃ S : ByteArray, S = ⟨(takeL bs).toArray⟩ := ⟨_, rfl⟩
 obtain ⟨n0, hn0⟩ : ∃ n0 : ByteArray, n0 = (if an then nm else ⟨#[]⟩) := ⟨_, rfl⟩
 have HN := Aside0.mk hn0
 clear hn0
 have hblk : ∀ A D : Obj, ((w.alloc A).alloc D).heap[w.heap.size + 1]? = some D ∧ ((w.alloc A).alloc D).heap[w.heap.size]? = some A := by
  intro A D
  have h1 := heap_alloc_new (w.alloc A) D
  have h2 := heap_alloc_new w A
  have e1 : (w.alloc A).heap.size = w.heap.size + 1 := by simp
  rw [e1] at h1
  exact ⟨h1, (Below.heap_alloc (w.alloc A) D w.heap.size (by rw [e1]; omega)).trans h2⟩
 have HBLK := Aside0.mk hblk
 have hne0 : w.heap.size ≠ g := by omega
 have hne1 : w.heap.size + 1 ≠ g := by omega
 have HL := Aside0.mk hl
 clear hblk
 have key : ∀ (w1 : World), Aside0 (w1 = (w.alloc (.cells #[.string ⟨#[]⟩, .string ⟨#[]⟩, .string ⟨#[]⟩] 33)).alloc (.cells #[.string n0, .string ⟨#[]⟩, .string ⟨#[]⟩] 33)) → True := fun _ _ => trivial
 clear key
 cases an with
 | true =>
  obtain rfl : n0 = nm := HN.out
  go_enter Tryd.func41, Tryd.ntmps41
  go_wp2_with fail
  refine (take_ok g bs n0 true cl _ ((HI.out.alloc _).alloc _) (by omega)).mono ?_
  rintro e w2 ⟨rfl, h2, hk2⟩
  have hD := hk2.others (w.heap.size + 1) _ (HBLK.out _ _).1 (fun e => hne1 (Option.some.inj e)) (fun c fz e => by cases e)
  have hA := hk2.others w.heap.size _ (HBLK.out _ _).2 (fun e => hne0 (Option.some.inj e)) (fun c fz e => by cases e)
  have HK := Aside0.mk (((((Kept.refl 5 g w).alloc (Nat.le_of_lt hl) _).alloc (by simp; omega) _)).trans hk2)
  have H2 := Aside0.mk h2
  rw [← hS]
  have HS := Aside0.mk hS
  have hSl : S.size ≤ 1000000000000 := by rw [hS]; have := takeL_len bs; simp [ByteArray.size]; omega
  clear hc1 hc2 h2 hk2 HI HBLK hS hb
  obtain ⟨ix, hix⟩ : ∃ ix, ix = Lib.lastIndexByte S 64 := ⟨_, rfl⟩
  have hspec := Lib.lastIndexByte_spec S 64
  rw [← hix] at hspec
  have HIX := Aside0.mk hix
  go_wp2_with fail
  refine (lastByte_any S 64 (by omega) _).mono ?_
  rintro e w3 ⟨rfl, hw3⟩
  have hw4 := hw3.symm
  subst hw4
  clear hw3
  rw [← HIX.out]
  have c1 : w2.cell? ⟨w.heap.size + 1, 1, none⟩ = some (.string ⟨#[]⟩) := by simp [World.cell?, hD]
  have f1 : w2.frozen? ⟨w.heap.size + 1, 1, none⟩ = false := by simp [World.frozen?, hD]
  have c2 : w2.cell? ⟨w.heap.size + 1, 2, none⟩ = some (.string ⟨#[]⟩) := by simp [World.cell?, hD]
  have f2 : w2.frozen? ⟨w.heap.size + 1, 2, none⟩ = false := by simp [World.frozen?, hD]
  have HS2 := Aside0.mk (show S.size = (takeL bs).length by rw [HS.out]; simp [ByteArray.size])
  rcases hspec with ⟨hneg, _⟩ | ⟨i, hi, hpos, _, _⟩
  ·
   have hn : ¬ (0 : Int) ≤ ix := by omega
   have hn2 : decide ((0 : Int) ≤ ix) = false := decide_eq_false hn
   clear hix
   go_upto_region 9 with (fail)
   clear hn2
   have hD4 : (w2.setCell ⟨w.heap.size + 1, 1, none⟩ (.string S)).heap[w.heap.size + 1]? = some (.cells #[.string n0, .string S, .string ⟨#[]⟩] 33 (0, 0)) := by simp [World.setCell, World.drew, Array.getElem?_modify, hD]
   have hA4 : (w2.setCell ⟨w.heap.size + 1, 1, none⟩ (.string S)).heap[w.heap.size]? = some (.cells #[.string ⟨#[]⟩, .string ⟨#[]⟩, .string ⟨#[]⟩] 33 (0, 0)) := (Below.heap_setCell w2 ⟨w.heap.size + 1, 1, none⟩ _ w.heap.size (by show w.heap.size ≠ w.heap.size + 1; omega)).trans hA
   have H4 := Aside0.mk (H2.out.setOther hD (by decide) (Ne.symm hne1) 1 (.string S))
   have HK4 := Aside0.mk (HK.out.setFar (by omega) (by omega) 1 (.string S) (k := w.heap.size + 1))
   generalize w2.setCell ⟨w.heap.size + 1, 1, none⟩ (.string S) = w4 at *
   have d0 : w4.cell? ⟨w.heap.size + 1, 0, none⟩ = some (.string n0) := by simp [World.cell?, hD4]
   have d1 : w4.cell? ⟨w.heap.size + 1, 1, none⟩ = some (.string S) := by simp [World.cell?, hD4]
   have d2 : w4.cell? ⟨w.heap.size + 1, 2, none⟩ = some (.string ⟨#[]⟩) := by simp [World.cell?, hD4]
   have a0 : w4.cell? ⟨w.heap.size, 0, none⟩ = some (.string ⟨#[]⟩) := by simp [World.cell?, hA4]
   have a1 : w4.cell? ⟨w.heap.size, 1, none⟩ = some (.string ⟨#[]⟩) := by simp [World.cell?, hA4]
   have a2 : w4.cell? ⟨w.heap.size, 2, none⟩ = some (.string ⟨#[]⟩) := by simp [World.cell?, hA4]
   have b0 : w4.frozen? ⟨w.heap.size, 0, none⟩ = false := by simp [World.frozen?, hA4]
   have b1 : w4.frozen? ⟨w.heap.size, 1, none⟩ = false := by simp [World.frozen?, hA4]
   have b2 : w4.frozen? ⟨w.heap.size, 2, none⟩ = false := by simp [World.frozen?, hA4]
   have HA4 := Aside0.mk hA4
   clear hA4 hD4 c1 f1 c2 f2 hD hA
   have hFE : F = (n0, S, ⟨#[]⟩) := by
    rw [HF.out]
    unfold endF
    rw [← HS.out, ← HIX.out]
    have hn9 : ¬ (0 : Int) ≤ ix := by omega
    simp only [if_neg hn9, if_true, Bool.false_eq_true, if_false]
   have HFE := Aside0.mk hFE
   clear hFE
   go_region
   all_goals
    go_wp2_with fail
    refine bodyPost_ret (v := .tuple #[.agg #[.string n0, .string S, .string ⟨#[]⟩], .bool (!n0.toList.isEmpty || !S.toList.isEmpty)]) (by simp [results, Tryd.results41, go_sem, a0, a1, a2]) rfl ⟨?_, H4.out.set3 HA4.out (by decide) (Ne.symm hne0) _ _ _, HK4.out.set3 (Nat.le_refl _) (Nat.le_of_lt HL.out) _ _ _⟩
    rw [HFE.out]
    simp [isF]
  ·
   subst hpos
   have g1 : (0 : Int) ≤ (i : Int) := by omega
   have g2 : (i : Int) ≤ (S.size : Int) := by omega
   have g3 : (0 : Int) ≤ (i : Int) + 1 := by omega
   have g4 : (i : Int) + 1 ≤ (S.size : Int) := by omega
   clear hix
   go_upto_region 7 with (fail)
   go_region
   go_upto_region 9 with (fail)
   have hD4 : (((w2.setCell ⟨w.heap.size + 1, 1, none⟩ (.string (S.extract 0 i))).setCell ⟨w.heap.size + 1, 2, none⟩ (.string (S.extract (i + 1) S.size))).drew).heap[w.heap.size + 1]? = some (.cells #[.string n0, .string (S.extract 0 i), .string (S.extract (i + 1) S.size)] 33 (0, 0)) := by simp [World.setCell, World.drew, Array.getElem?_modify, hD]
   have hA4 : (((w2.setCell ⟨w.heap.size + 1, 1, none⟩ (.string (S.extract 0 i))).setCell ⟨w.heap.size + 1, 2, none⟩ (.string (S.extract (i + 1) S.size))).drew).heap[w.heap.size]? = some (.cells #[.string ⟨#[]⟩, .string ⟨#[]⟩, .string ⟨#[]⟩] 33 (0, 0)) := ((Below.heap_setCell _ ⟨w.heap.size + 1, 2, none⟩ _ w.heap.size (by show w.heap.size ≠ w.heap.size + 1; omega)).trans ((Below.heap_setCell w2 ⟨w.heap.size + 1, 1, none⟩ _ w.heap.size (by show w.heap.size ≠ w.heap.size + 1; omega)).trans hA))
   have H4 := Aside0.mk (((H2.out.setOther hD (by decide) (Ne.symm hne1) 1 (.string (S.extract 0 i))).setOther (show (w2.setCell ⟨w.heap.size + 1, 1, none⟩ (.string (S.extract 0 i))).heap[w.heap.size + 1]? = some (.cells #[.string n0, .string (S.extract 0 i), .string ⟨#[]⟩] 33 (0, 0)) by simp [World.setCell, Array.getElem?_modify, hD]) (by decide) (Ne.symm hne1) 2 (.string (S.extract (i + 1) S.size))).drew)
   have HK4 := Aside0.mk (((HK.out.setFar (by omega) (by omega) 1 (.string (S.extract 0 i)) (k := w.heap.size + 1)).setFar (by omega) (by omega) 2 (.string (S.extract (i + 1) S.size)) (k := w.heap.size + 1)).drew)
   generalize ((w2.setCell ⟨w.heap.size + 1, 1, none⟩ (.string (S.extract 0 i))).setCell ⟨w.heap.size + 1, 2, none⟩ (.string (S.extract (i + 1) S.size))).drew = w4 at *
   have d0 : w4.cell? ⟨w.heap.size + 1, 0, none⟩ = some (.string n0) := by simp [World.cell?, hD4]
   have d1 : w4.cell? ⟨w.heap.size + 1, 1, none⟩ = some (.string (S.extract 0 i)) := by simp [World.cell?, hD4]
   have d2 : w4.cell? ⟨w.heap.size + 1, 2, none⟩ = some (.string (S.extract (i + 1) S.size)) := by simp [World.cell?, hD4]
   have a0 : w4.cell? ⟨w.heap.size, 0, none⟩ = some (.string ⟨#[]⟩) := by simp [World.cell?, hA4]
   have a1 : w4.cell? ⟨w.heap.size, 1, none⟩ = some (.string ⟨#[]⟩) := by simp [World.cell?, hA4]
   have a2 : w4.cell? ⟨w.heap.size, 2, none⟩ = some (.string ⟨#[]⟩) := by simp [World.cell?, hA4]
   have b0 : w4.frozen? ⟨w.heap.size, 0, none⟩ = false := by simp [World.frozen?, hA4]
   have b1 : w4.frozen? ⟨w.heap.size, 1, none⟩ = false := by simp [World.frozen?, hA4]
   have b2 : w4.frozen? ⟨w.heap.size, 2, none⟩ = false := by simp [World.frozen?, hA4]
   have HA4 := Aside0.mk hA4
   clear hA4 hD4 c1 f1 c2 f2 hD hA
   have hFE : F = (n0, (S.extract 0 i), (S.extract (i + 1) S.size)) := by
    rw [HF.out]
    unfold endF
    rw [← HS.out, ← HIX.out]
    simp only [if_pos (show (0 : Int) ≤ (i : Int) by omega), if_true, Int.toNat_natCast, HS2.out, Bool.false_eq_true, if_false]
   have HFE := Aside0.mk hFE
   clear hFE
   go_region
   all_goals
    go_wp2_with fail
    refine bodyPost_ret (v := .tuple #[.agg #[.string n0, .string (S.extract 0 i), .string (S.extract (i + 1) S.size)], .bool (!n0.toList.isEmpty || (!(S.extract 0 i).toList.isEmpty || !(S.extract (i + 1) S.size).toList.isEmpty))]) (by simp [results, Tryd.results41, go_sem, a0, a1, a2]) rfl ⟨?_, H4.out.set3 HA4.out (by decide) (Ne.symm hne0) _ _ _, HK4.out.set3 (Nat.le_refl _) (Nat.le_of_lt HL.out) _ _ _⟩
    rw [HFE.out]
    simp [isF]
 | false =>
  go_enter Tryd.func41, Tryd.ntmps41
  go_wp2_with fail
  refine (take_ok g bs nm false cl _ ((HI.out.alloc _).alloc _) (by omega)).mono ?_
  rintro e w2 ⟨rfl, h2, hk2⟩
  have hD := hk2.others (w.heap.size + 1) _ (HBLK.out _ _).1 (fun e => hne1 (Option.some.inj e)) (fun c fz e => by cases e)
  have hA := hk2.others w.heap.size _ (HBLK.out _ _).2 (fun e => hne0 (Option.some.inj e)) (fun c fz e => by cases e)
  have HK := Aside0.mk (((((Kept.refl 5 g w).alloc (Nat.le_of_lt hl) _).alloc (by simp; omega) _)).trans hk2)
  have H2 := Aside0.mk h2
  rw [← hS]
  have HS := Aside0.mk hS
  have hSl : S.size ≤ 1000000000000 := by rw [hS]; have := takeL_len bs; simp [ByteArray.size]; omega
  clear hc1 hc2 h2 hk2 HI HBLK hS hb
  obtain ⟨ix, hix⟩ : ∃ ix, ix = Lib.lastIndexByte S 64 := ⟨_, rfl⟩
  have hspec := Lib.lastIndexByte_spec S 64
  rw [← hix] at hspec
  have HIX := Aside0.mk hix
  go_wp2_with fail
  refine (lastByte_any S 64 (by omega) _).mono ?_
  rintro e w3 ⟨rfl, hw3⟩
  have hw4 := hw3.symm
  subst hw4
  clear hw3
  rw [← HIX.out]
  have c1 : w2.cell? ⟨w.heap.size + 1, 1, none⟩ = some (.string ⟨#[]⟩) := by simp [World.cell?, hD]
  have f1 : w2.frozen? ⟨w.heap.size + 1, 1, none⟩ = false := by simp [World.frozen?, hD]
  have c2 : w2.cell? ⟨w.heap.size + 1, 2, none⟩ = some (.string ⟨#[]⟩) := by simp [World.cell?, hD]
  have f2 : w2.frozen? ⟨w.heap.size + 1, 2, none⟩ = false := by simp [World.frozen?, hD]
  have HS2 := Aside0.mk (show S.size = (takeL bs).length by rw [HS.out]; simp [ByteArray.size])
  rcases hspec with ⟨hneg, _⟩ | ⟨i, hi, hpos, _, _⟩
  ·
   have hn : ¬ (0 : Int) ≤ ix := by omega
   have hn2 : decide ((0 : Int) ≤ ix) = false := decide_eq_false hn
   clear hix
   go_upto_region 9 with (fail)
   clear hn2
   have hD4 : (w2.setCell ⟨w.heap.size + 1, 1, none⟩ (.string S)).heap[w.heap.size + 1]? = some (.cells #[.string ⟨#[]⟩, .string S, .string ⟨#[]⟩] 33 (0, 0)) := by simp [World.setCell, World.drew, Array.getElem?_modify, hD]
   have hA4 : (w2.setCell ⟨w.heap.size + 1, 1, none⟩ (.string S)).heap[w.heap.size]? = some (.cells #[.string ⟨#[]⟩, .string ⟨#[]⟩, .string ⟨#[]⟩] 33 (0, 0)) := (Below.heap_setCell w2 ⟨w.heap.size + 1, 1, none⟩ _ w.heap.size (by show w.heap.size ≠ w.heap.size + 1; omega)).trans hA
   have H4 := Aside0.mk (H2.out.setOther hD (by decide) (Ne.symm hne1) 1 (.string S))
   have HK4 := Aside0.mk (HK.out.setFar (by omega) (by omega) 1 (.string S) (k := w.heap.size + 1))
   generalize w2.setCell ⟨w.heap.size + 1, 1, none⟩ (.string S) = w4 at *
   have d0 : w4.cell? ⟨w.heap.size + 1, 0, none⟩ = some (.string ⟨#[]⟩) := by simp [World.cell?, hD4]
   have d1 : w4.cell? ⟨w.heap.size + 1, 1, none⟩ = some (.string S) := by simp [World.cell?, hD4]
   have d2 : w4.cell? ⟨w.heap.size + 1, 2, none⟩ = some (.string ⟨#[]⟩) := by simp [World.cell?, hD4]
   have a0 : w4.cell? ⟨w.heap.size, 0, none⟩ = some (.string ⟨#[]⟩) := by simp [World.cell?, hA4]
   have a1 : w4.cell? ⟨w.heap.size, 1, none⟩ = some (.string ⟨#[]⟩) := by simp [World.cell?, hA4]
   have a2 : w4.cell? ⟨w.heap.size, 2, none⟩ = some (.string ⟨#[]⟩) := by simp [World.cell?, hA4]
   have b0 : w4.frozen? ⟨w.heap.size, 0, none⟩ = false := by simp [World.frozen?, hA4]
   have b1 : w4.frozen? ⟨w.heap.size, 1, none⟩ = false := by simp [World.frozen?, hA4]
   have b2 : w4.frozen? ⟨w.heap.size, 2, none⟩ = false := by simp [World.frozen?, hA4]
   have HA4 := Aside0.mk hA4
   clear hA4 hD4 c1 f1 c2 f2 hD hA
   have hFE : F = (⟨#[]⟩, S, ⟨#[]⟩) := by
    rw [HF.out]
    unfold endF
    rw [← HS.out, ← HIX.out]
    have hn9 : ¬ (0 : Int) ≤ ix := by omega
    simp only [if_neg hn9, if_true, Bool.false_eq_true, if_false]
   have HFE := Aside0.mk hFE
   clear hFE
   go_region
   all_goals
    go_wp2_with fail
    refine bodyPost_ret (v := .tuple #[.agg #[.string ⟨#[]⟩, .string S, .string ⟨#[]⟩], .bool (!S.toList.isEmpty)]) (by simp [results, Tryd.results41, go_sem, a0, a1, a2]) rfl ⟨?_, H4.out.set3 HA4.out (by decide) (Ne.symm hne0) _ _ _, HK4.out.set3 (Nat.le_refl _) (Nat.le_of_lt HL.out) _ _ _⟩
    rw [HFE.out]
    simp [isF]
  ·
   subst hpos
   have g1 : (0 : Int) ≤ (i : Int) := by omega
   have g2 : (i : Int) ≤ (S.size : Int) := by omega
   have g3 : (0 : Int) ≤ (i : Int) + 1 := by omega
   have g4 : (i : Int) + 1 ≤ (S.size : Int) := by omega
   clear hix
   go_upto_region 7 with (fail)
   go_region
   go_upto_region 9 with (fail)
   have hD4 : (((w2.setCell ⟨w.heap.size + 1, 1, none⟩ (.string (S.extract 0 i))).setCell ⟨w.heap.size + 1, 2, none⟩ (.string (S.extract (i + 1) S.size))).drew).heap[w.heap.size + 1]? = some (.cells #[.string ⟨#[]⟩, .string (S.extract 0 i), .string (S.extract (i + 1) S.size)] 33 (0, 0)) := by simp [World.setCell, World.drew, Array.getElem?_modify, hD]
   have hA4 : (((w2.setCell ⟨w.heap.size + 1, 1, none⟩ (.string (S.extract 0 i))).setCell ⟨w.heap.size + 1, 2, none⟩ (.string (S.extract (i + 1) S.size))).drew).heap[w.heap.size]? = some (.cells #[.string ⟨#[]⟩, .string ⟨#[]⟩, .string ⟨#[]⟩] 33 (0, 0)) := ((Below.heap_setCell _ ⟨w.heap.size + 1, 2, none⟩ _ w.heap.size (by show w.heap.size ≠ w.heap.size + 1; omega)).trans ((Below.heap_setCell w2 ⟨w.heap.size + 1, 1, none⟩ _ w.heap.size (by show w.heap.size ≠ w.heap.size + 1; omega)).trans hA))
   have H4 := Aside0.mk (((H2.out.setOther hD (by decide) (Ne.symm hne1) 1 (.string (S.extract 0 i))).setOther (show (w2.setCell ⟨w.heap.size + 1, 1, none⟩ (.string (S.extract 0 i))).heap[w.heap.size + 1]? = some (.cells #[.string ⟨#[]⟩, .string (S.extract 0 i), .string ⟨#[]⟩] 33 (0, 0)) by simp [World.setCell, Array.getElem?_modify, hD]) (by decide) (Ne.symm hne1) 2 (.string (S.extract (i + 1) S.size))).drew)
   have HK4 := Aside0.mk (((HK.out.setFar (by omega) (by omega) 1 (.string (S.extract 0 i)) (k := w.heap.size + 1)).setFar (by omega) (by omega) 2 (.string (S.extract (i + 1) S.size)) (k := w.heap.size + 1)).drew)
   generalize ((w2.setCell ⟨w.heap.size + 1, 1, none⟩ (.string (S.extract 0 i))).setCell ⟨w.heap.size + 1, 2, none⟩ (.string (S.extract (i + 1) S.size))).drew = w4 at *
   have d0 : w4.cell? ⟨w.heap.size + 1, 0, none⟩ = some (.string ⟨#[]⟩) := by simp [World.cell?, hD4]
   have d1 : w4.cell? ⟨w.heap.size + 1, 1, none⟩ = some (.string (S.extract 0 i)) := by simp [World.cell?, hD4]
   have d2 : w4.cell? ⟨w.heap.size + 1, 2, none⟩ = some (.string (S.extract (i + 1) S.size)) := by simp [World.cell?, hD4]
   have a0 : w4.cell? ⟨w.heap.size, 0, none⟩ = some (.string ⟨#[]⟩) := by simp [World.cell?, hA4]
   have a1 : w4.cell? ⟨w.heap.size, 1, none⟩ = some (.string ⟨#[]⟩) := by simp [World.cell?, hA4]
   have a2 : w4.cell? ⟨w.heap.size, 2, none⟩ = some (.string ⟨#[]⟩) := by simp [World.cell?, hA4]
   have b0 : w4.frozen? ⟨w.heap.size, 0, none⟩ = false := by simp [World.frozen?, hA4]
   have b1 : w4.frozen? ⟨w.heap.size, 1, none⟩ = false := by simp [World.frozen?, hA4]
   have b2 : w4.frozen? ⟨w.heap.size, 2, none⟩ = false := by simp [World.frozen?, hA4]
   have HA4 := Aside0.mk hA4
   clear hA4 hD4 c1 f1 c2 f2 hD hA
   have hFE : F = (⟨#[]⟩, (S.extract 0 i), (S.extract (i + 1) S.size)) := by
    rw [HF.out]
    unfold endF
    rw [← HS.out, ← HIX.out]
    simp only [if_pos (show (0 : Int) ≤ (i : Int) by omega), if_true, Int.toNat_natCast, HS2.out, Bool.false_eq_true, if_false]
   have HFE := Aside0.mk hFE
   clear hFE
   go_region
   all_goals
    go_wp2_with fail
    refine bodyPost_ret (v := .tuple #[.agg #[.string ⟨#[]⟩, .string (S.extract 0 i), .string (S.extract (i + 1) S.size)], .bool (!(S.extract 0 i).toList.isEmpty || !(S.extract (i + 1) S.size).toList.isEmpty)]) (by simp [results, Tryd.results41, go_sem, a0, a1, a2]) rfl ⟨?_, H4.out.set3 HA4.out (by decide) (Ne.symm hne0) _ _ _, HK4.out.set3 (Nat.le_refl _) (Nat.le_of_lt HL.out) _ _ _⟩
    rw [HFE.out]
    simp [isF]
def cAt (s : ByteArray) (i : Nat) : UInt8 := if h : i < s.size then s[i] else 0
theorem cAt_eq {s : ByteArray} {i : Nat} (h : i < s.size) : cAt s i = s[i]'h := by rw [cAt, dif_pos h]
def adrOf (f : ByteArray × ByteArray × ByteArray) : S33 := ⟨f.1, f.2.1, f.2.2⟩
def finF (out : List S33) (f : ByteArray × ByteArray × ByteArray) : List S33 := if isF f = true then out ++ [adrOf f] else out
def header_Addresses.l0 : Nat → ByteArray → Nat → Bool → List UInt8 → ByteArray → Bool → Bool → List S33 → Option (List S33)
 | 0, _, _, _, _, _, _, _, _ => none
 | k + 1, s, i, inb, bs, nm, an, cl, out =>
  if i < s.size then
   (if cAt s i = 34 then header_Addresses.l0 k s (i + 1 + (quoF (s.data.toList.drop (i + 1))).2) inb (if cl then bs else bs ++ (quoF (s.data.toList.drop (i + 1))).1) nm an cl out
   else if cAt s i = 40 then (header_remark.f k s (i : Int)).bind fun t => (if (i : Int) < t then (if t ≤ (s.size : Int) then header_Addresses.l0 k s t.toNat inb bs nm an cl out else none) else none)
   else if cAt s i = 60 ∧ inb = false then (if an = true then header_Addresses.l0 k s (i + 1) true bs nm an cl out else header_Addresses.l0 k s (i + 1) true [] ⟨(takeL bs).toArray⟩ true cl out)
   else if cAt s i = 62 ∧ inb = true then header_Addresses.l0 k s (i + 1) false bs nm an true out
   else if cAt s i = 44 ∧ inb = false then header_Addresses.l0 k s (i + 1) inb [] ⟨#[]⟩ false false (finF out (endF bs nm an))
   else header_Addresses.l0 k s (i + 1) inb (if cl then bs else bs ++ [cAt s i]) nm an cl out)
  else some (finF out (endF bs nm an))
def header_Addresses.f (k : Nat) (a0 : ByteArray) : Option (List S33) := if a0.size ≤ 1000000000 then header_Addresses.l0 k a0 0 false [] ⟨#[]⟩ false false [] else none
theorem header_Addresses.mono_l : ∀ k, ∀ s i inb bs nm an cl out, LeO (header_Addresses.l0 k s i inb bs nm an cl out) (header_Addresses.l0 (k + 1) s i inb bs nm an cl out)
 | 0 => fun _ _ _ _ _ _ _ _ r h => by simp [header_Addresses.l0] at h
 | k + 1 => by
  have ih0 := header_Addresses.mono_l k
  intro s i inb bs nm an cl out
  unfold header_Addresses.l0
  repeat' first
  | (with_reducible exact ih0 _ _ _ _ _ _ _ _)
  | (with_reducible exact header_remark.mono _ _ _)
  | (with_reducible exact LeO.refl _)
  | (with_reducible exact LeO.none _)
  | (with_reducible refine LeO.ite ?_ ?_)
  | (with_reducible refine LeO.bind ?_ (fun _ => ?_))
theorem header_Addresses.mono (k : Nat) (a0 : ByteArray) : LeO (header_Addresses.f k a0) (header_Addresses.f (k + 1) a0) := by
 unfold header_Addresses.f
 exact LeO.ite (header_Addresses.mono_l k _ _ _ _ _ _ _ _) (LeO.none _)
inductive AdrAt (s : ByteArray) (v3 v4 v5 v6 : Value) : Act → Prop
 | mk (u1 u2 u7 u8 u9 u10 u11 u12 u13 u14 u15 u16 u17 u18 u19 u20 u21 u22 u23 u24 u25 u26 u27 u28 u29 u30 u31 u32 u33 u34 u35 u36 u37 u38 u39 u40 u41 u42 u43 u44 u45 u46 u47 u48 u49 u50 u51 u52 u53 u54 u55 u56 u57 u58 u59 u60 u61 u62 u63 u64 u65 u66 u67 u68 u69 u70 u71 u72 u73 u74 u75 u76 u77 u78 u79 u80 u81 u82 u83 u84 u85 u86 u87 u88 u89 u90 u91 u92 u93 u94 u95 u96 u97 u98 u99 u100 u101 u102 u103 u104 u105 : Value) : AdrAt s v3 v4 v5 v6 { tmps := #[.string s, u1, u2, v3, v4, v5, v6, u7, u8, u9, u10, u11, u12, u13, u14, u15, u16, u17, u18, u19, u20, u21, u22, u23, u24, u25, u26, u27, u28, u29, u30, u31, u32, u33, u34, u35, u36, u37, u38, u39, u40, u41, u42, u43, u44, u45, u46, u47, u48, u49, u50, u51, u52, u53, u54, u55, u56, u57, u58, u59, u60, u61, u62, u63, u64, u65, u66, u67, u68, u69, u70, u71, u72, u73, u74, u75, u76, u77, u78, u79, u80, u81, u82, u83, u84, u85, u86, u87, u88, u89, u90, u91, u92, u93, u94, u95, u96, u97, u98, u99, u100, u101, u102, u103, u104, u105], defers := [] }
theorem AdrAt_elim {s : ByteArray} {a : Act} {v3 v4 v5 v6 : Value} {C : Act → Prop} (h : AdrAt s v3 v4 v5 v6 a) (k : ∀ u1 u2 u7 u8 u9 u10 u11 u12 u13 u14 u15 u16 u17 u18 u19 u20 u21 u22 u23 u24 u25 u26 u27 u28 u29 u30 u31 u32 u33 u34 u35 u36 u37 u38 u39 u40 u41 u42 u43 u44 u45 u46 u47 u48 u49 u50 u51 u52 u53 u54 u55 u56 u57 u58 u59 u60 u61 u62 u63 u64 u65 u66 u67 u68 u69 u70 u71 u72 u73 u74 u75 u76 u77 u78 u79 u80 u81 u82 u83 u84 u85 u86 u87 u88 u89 u90 u91 u92 u93 u94 u95 u96 u97 u98 u99 u100 u101 u102 u103 u104 u105 : Value, C { tmps := #[.string s, u1, u2, v3, v4, v5, v6, u7, u8, u9, u10, u11, u12, u13, u14, u15, u16, u17, u18, u19, u20, u21, u22, u23, u24, u25, u26, u27, u28, u29, u30, u31, u32, u33, u34, u35, u36, u37, u38, u39, u40, u41, u42, u43, u44, u45, u46, u47, u48, u49, u50, u51, u52, u53, u54, u55, u56, u57, u58, u59, u60, u61, u62, u63, u64, u65, u66, u67, u68, u69, u70, u71, u72, u73, u74, u75, u76, u77, u78, u79, u80, u81, u82, u83, u84, u85, u86, u87, u88, u89, u90, u91, u92, u93, u94, u95, u96, u97, u98, u99, u100, u101, u102, u103, u104, u105], defers := [] }) : C a := by
 cases h
 exact k _ _ _ _ _ _ _ _ _ _ _ _ _ _ _ _ _ _ _ _ _ _ _ _ _ _ _ _ _ _ _ _ _ _ _ _ _ _ _ _ _ _ _ _ _ _ _ _ _ _ _ _ _ _ _ _ _ _ _ _ _ _ _ _ _ _ _ _ _ _ _ _ _ _ _ _ _ _ _ _ _ _ _ _ _ _ _ _ _ _ _ _ _ _ _ _ _ _ _ _ _
theorem AdrAt_of {s : ByteArray} {v3 v4 v5 v6 v6x : Value} {u1 u2 u7 u8 u9 u10 u11 u12 u13 u14 u15 u16 u17 u18 u19 u20 u21 u22 u23 u24 u25 u26 u27 u28 u29 u30 u31 u32 u33 u34 u35 u36 u37 u38 u39 u40 u41 u42 u43 u44 u45 u46 u47 u48 u49 u50 u51 u52 u53 u54 u55 u56 u57 u58 u59 u60 u61 u62 u63 u64 u65 u66 u67 u68 u69 u70 u71 u72 u73 u74 u75 u76 u77 u78 u79 u80 u81 u82 u83 u84 u85 u86 u87 u88 u89 u90 u91 u92 u93 u94 u95 u96 u97 u98 u99 u100 u101 u102 u103 u104 u105 : Value} (h6 : v6x = v6) : AdrAt s v3 v4 v5 v6 { tmps := #[.string s, u1, u2, v3, v4, v5, v6x, u7, u8, u9, u10, u11, u12, u13, u14, u15, u16, u17, u18, u19, u20, u21, u22, u23, u24, u25, u26, u27, u28, u29, u30, u31, u32, u33, u34, u35, u36, u37, u38, u39, u40, u41, u42, u43, u44, u45, u46, u47, u48, u49, u50, u51, u52, u53, u54, u55, u56, u57, u58, u59, u60, u61, u62, u63, u64, u65, u66, u67, u68, u69, u70, u71, u72, u73, u74, u75, u76, u77, u78, u79, u80, u81, u82, u83, u84, u85, u86, u87, u88, u89, u90, u91, u92, u93, u94, u95, u96, u97, u98, u99, u100, u101, u102, u103, u104, u105], defers := [] } := by
 subst h6
 exact .mk _ _ _ _ _ _ _ _ _ _ _ _ _ _ _ _ _ _ _ _ _ _ _ _ _ _ _ _ _ _ _ _ _ _ _ _ _ _ _ _ _ _ _ _ _ _ _ _ _ _ _ _ _ _ _ _ _ _ _ _ _ _ _ _ _ _ _ _ _ _ _ _ _ _ _ _ _ _ _ _ _ _ _ _ _ _ _ _ _ _ _ _ _ _ _ _ _ _ _ _ _
theorem quoF_len2 : ∀ (n : Nat) (r : List UInt8), r.length ≤ n → (quoF r).1.length + 1 ≤ (quoF r).2
 | _, [], _ => by simp [quoF]
 | _, [c], _ => by unfold quoF; split <;> simp
 | 0, c :: d :: r, h => by simp at h
 | n + 1, c :: d :: r, h => by
  rw [quoF]
  have h1 := quoF_len2 n r (by simp at h; omega)
  have h2 := quoF_len2 n (d :: r) (by simp at h ⊢; omega)
  split
  ·
   simp
  ·
   split
   ·
    simp only [List.length_cons]; omega
   ·
    simp only [List.length_cons]; omega
theorem below_drawn {a b : World} (h : Drawn0 a b) : Below a.heap.size a b := by
 obtain ⟨nd, rfl⟩ := h
 exact pw_below_drewN (Below.refl _ _) _
/-- What the reading keeps: the piece, and the addresses so far. -/
structure AdrW (w wr : World) (g : Nat) (bs : List UInt8) (nm : ByteArray) (an cl : Bool) (v3 : Value) (out : List S33) (i : Nat) : Prop where
 pc : Pc g wr bs nm an cl
 new : w.heap.size ≤ g
 below : Below w.heap.size w wr
 row : Kd.R k33 33 wr w.heap.size (fun _ => True) v3 out
 said : bs.length ≤ i
 outs : out.length ≤ i
theorem R_kp {w wr w1 : World} {g : Nat} {v3 : Value} {out : List S33} {bs : List UInt8} {nm : ByteArray} {an cl : Bool} (h : Kd.R k33 33 wr w.heap.size (fun _ => True) v3 out) (hI : Pc g wr bs nm an cl) (hk : Kp g wr w1) : Kd.R k33 33 w1 w.heap.size (fun _ => True) v3 out := by
 obtain ⟨v, h1, _⟩ := hI
 have h2 := Kd.R_bound (Kd.R_types h h1 (by decide))
 refine Kd.R_mono (Kd.R_move h2 (fun k hk2 => ?_)) (fun _ _ => trivial)
 obtain ⟨⟨_, hne⟩, _, _, q, hq, cells, hc⟩ := hk2
 rw [hc]
 refine hk.others k _ hc (by simpa using hne) ?_
 intro c fz e
 injection e with _ e
 revert hq
 rw [e]
 decide
theorem AdrW.kp {w wr w1 : World} {g : Nat} {bs bs' : List UInt8} {nm nm' : ByteArray} {an an' cl cl' : Bool} {v3 : Value} {out : List S33} {i i' : Nat} (h : AdrW w wr g bs nm an cl v3 out i) (h1 : Pc g w1 bs' nm' an' cl') (hk : Kp g wr w1) (hs : bs'.length ≤ i') (hi : i ≤ i') : AdrW w w1 g bs' nm' an' cl' v3 out i' :=
 ⟨h1, h.new, h.below.trans (hk.below.mono h.new), R_kp h.row h.pc hk, hs, Nat.le_trans h.outs hi⟩
def AdrJ0 (w : World) (s : ByteArray) (r : List S33) (a : Act) (wr : World) : Prop := ∃ (g i : Nat) (bs : List UInt8) (nm : ByteArray) (an cl : Bool) (v3 v5 v6 : Value) (out : List S33), AdrAt s v3 (.pointer (some ⟨g, 0, none⟩)) v5 v6 a ∧ Aside0 (AdrW w wr g bs nm an cl v3 out i) ∧ Aside0 (i ≤ s.size + 1) ∧ Aside0 (finF out (endF bs nm an) = r)
def AdrJ1 (w : World) (s : ByteArray) (r : List S33) (n : Nat) (a : Act) (wr : World) : Prop := ∃ (g i : Nat) (inb : Bool) (bs : List UInt8) (nm : ByteArray) (an cl : Bool) (v3 : Value) (out : List S33), AdrAt s v3 (.pointer (some ⟨g, 0, none⟩)) (.bool inb) (.int .i64 (i : Int)) a ∧ Aside0 (AdrW w wr g bs nm an cl v3 out i) ∧ Aside0 (i ≤ s.size + 1) ∧ Aside0 (header_Addresses.l0 n s i inb bs nm an cl out = some r)
set_option maxHeartbeats 4000000 in
set_option maxRecDepth 100000 in
theorem header_Addresses.calls (k : Nat) (a0 : ByteArray) (r : List S33) (w : World) (h : header_Addresses.f k a0 = some r) :
  Calls Tryd.prog 17 #[.string a0] w fun e w' => ∃ v0_, e = .returned v0_ ∧ Kd.R k33 33 w' w.heap.size (fun _ => True) v0_ r ∧ Below w.heap.size w w' := by
 have hs : a0.size ≤ 1000000000 := by
  unfold header_Addresses.f at h
  by_cases hc : a0.size ≤ 1000000000
  ·
   exact hc
  ·
   rw [if_neg hc] at h
   cases h
 unfold header_Addresses.f at h
 rw [if_pos hs] at h
 have H := Aside0.mk h
 have HS := Aside0.mk hs
 clear h hs
 generalize a0 = s at *
 go_enter Tryd.func17, Tryd.ntmps17
 go_wp2_with fail
 refine wp_scope_two 0 1 (AdrJ0 w s r) (AdrJ1 w s r) rfl rfl ?fin ?pass ?first
 case first =>
  intro hpass
  go_wp2_with fail
  rename_i K hK
  go_step3
  exact hK _ _ (hpass k _ _ ⟨w.heap.size, 0, false, [], ⟨#[]⟩, false, false, .slice none 0 0, [], AdrAt_of rfl, ⟨⟨IsPc.fresh _ _ w, Nat.le_refl _, Below.alloc (Below.refl _ w) (Nat.le_refl _) _, Kd.R_nil _ _ _ _ _, by simp, by simp⟩⟩, ⟨by omega⟩, H⟩)
 case fin =>
  clear H
  rintro a' wr ⟨g, i, bs, nm, an, cl, v3, v5, v6, out, hA, HW, HI, HR⟩
  refine AdrAt_elim (C := fun a' => Code.wp _ _ _ a' _) hA ?_
  clear hA
  intro u1 u2 u7 u8 u9 u10 u11 u12 u13 u14 u15 u16 u17 u18 u19 u20 u21 u22 u23 u24 u25 u26 u27 u28 u29 u30 u31 u32 u33 u34 u35 u36 u37 u38 u39 u40 u41 u42 u43 u44 u45 u46 u47 u48 u49 u50 u51 u52 u53 u54 u55 u56 u57 u58 u59 u60 u61 u62 u63 u64 u65 u66 u67 u68 u69 u70 u71 u72 u73 u74 u75 u76 u77 u78 u79 u80 u81 u82 u83 u84 u85 u86 u87 u88 u89 u90 u91 u92 u93 u94 u95 u96 u97 u98 u99 u100 u101 u102 u103 u104 u105
  go_wp2_with fail
  refine (end_ok g bs nm an cl _ HW.out.pc (by have := HW.out.said; have := HS.out; have := HI.out; omega)).mono ?_
  rintro e w1 ⟨rfl, h1, hk1⟩
  have hl1 := h1.lt
  have HW1 := Aside0.mk (HW.out.kp h1 hk1 (by simp) (Nat.le_refl i))
  have hb1 := Aside0.mk HW1.out.below
  clear h1 hk1
  by_cases hF : isF (endF bs nm an) = true
  ·
   rw [finF, if_pos hF] at HR
   have hFb : isF (endF bs nm an) = true := hF
   go_wp2_with (first | ((with_reducible refine gate_builtin (b := .append) (xs := #[.tmp 101, .tmp 103]) rfl ?_); (try (refine gate_guard (by rfl) ?_; dsimp only)); at_builtin; refine Kd.R_append k33 (w0 := w) w.heap.size rfl (.tmp 101) (.tmp 103) 30 33 (.agg #[(.string ⟨#[]⟩), (.string ⟨#[]⟩), (.string ⟨#[]⟩)]) 48 rfl Tryd.underlying30 info33 rfl (by decide) (by omega) v3 out (adrOf (endF bs nm an)) [.string (endF bs nm an).1, .string (endF bs nm an).2.1, .string (endF bs nm an).2.2] (fun _ => True) (fun _ => False) rfl (by show (Value.slice (some ⟨w1.heap.size + 1, 0, none⟩) 1 1) = _; simp) (k33_mkM _ _ _ (adrOf (endF bs nm an))) (fun _ hk => hk.elim) (fun _ _ => trivial) (Kd.R_alloc HW1.out.row _) (hb1.out.alloc hb1.out.size _) (hb1.out.alloc hb1.out.size _).size (by have := HW.out.outs; have := HI.out; have := HS.out; omega) ?_; intro v9 w9 ho hb hg hat; have HB9 := Aside0.mk hb; have HO9 := Aside0.mk ho; clear ho hb hg hat))
   simp only [Exit.noGoto]
   go_ret
   exact ⟨_, rfl, HR.out ▸ HO9.out, HB9.out⟩
  ·
   rw [finF, if_neg hF] at HR
   have hFb : isF (endF bs nm an) = false := by simpa using hF
   go_wp2_with fail
   simp only [Exit.noGoto]
   go_ret
   exact ⟨_, rfl, HR.out ▸ Kd.R_alloc HW1.out.row _, hb1.out.alloc hb1.out.size _⟩
 case pass =>
  clear H
  rintro n a' wr ⟨g, i, inb, bs, nm, an, cl, v3, out, hA, HW, HI, HL⟩
  refine AdrAt_elim (C := fun a' => Code.wp _ _ _ a' _) hA ?_
  clear hA
  intro u1 u2 u7 u8 u9 u10 u11 u12 u13 u14 u15 u16 u17 u18 u19 u20 u21 u22 u23 u24 u25 u26 u27 u28 u29 u30 u31 u32 u33 u34 u35 u36 u37 u38 u39 u40 u41 u42 u43 u44 u45 u46 u47 u48 u49 u50 u51 u52 u53 u54 u55 u56 u57 u58 u59 u60 u61 u62 u63 u64 u65 u66 u67 u68 u69 u70 u71 u72 u73 u74 u75 u76 u77 u78 u79 u80 u81 u82 u83 u84 u85 u86 u87 u88 u89 u90 u91 u92 u93 u94 u95 u96 u97 u98 u99 u100 u101 u102 u103 u104 u105
  have hsz : s.size ≤ 1000000000 := HS.out
  have hg := HW.out.pc.lt
  have hc1 := HW.out.pc.cell1
  have hc3 := HW.out.pc.cell3
  have hc2 := HW.out.pc.cell2
  have hf1 := HW.out.pc.frozen 1
  have hf2 := HW.out.pc.frozen 2
  have hf3 := HW.out.pc.frozen 3
  cases n with
  | zero => exact absurd HL.out (by simp [header_Addresses.l0])
  | succ n =>
   have H := HL.out
   clear HL
   rw [header_Addresses.l0] at H
   by_cases hp : i < s.size
   ·
    rw [if_pos hp] at H
    have hcq := cAt_eq hp
    obtain ⟨c, hc⟩ : ∃ c, c = cAt s i := ⟨_, rfl⟩
    rw [← hc] at H hcq
    have hlt : (i : Int) < (s.size : Int) := by omega
    have hge : ¬ (s.size : Int) ≤ (i : Int) := by omega
    have hgeb : decide ((s.size : Int) ≤ (i : Int)) = false := decide_eq_false hge
    have hi0 : (0 : Int) ≤ (i : Int) := by omega
    by_cases h34 : c = 34
    ·
     rw [if_pos h34] at H
     have e34 : (((s[i]'hp).toNat : Int) == 34) = true := by rw [← hcq, h34]; rfl
     have e40 : (((s[i]'hp).toNat : Int) == 40) = false := by rw [← hcq, h34]; rfl
     have e60 : (((s[i]'hp).toNat : Int) == 60) = false := by rw [← hcq, h34]; rfl
     have e62 : (((s[i]'hp).toNat : Int) == 62) = false := by rw [← hcq, h34]; rfl
     have e44 : (((s[i]'hp).toNat : Int) == 44) = false := by rw [← hcq, h34]; rfl
     have HC := Aside0.mk hcq
     have H' := Aside0.mk H
     clear H hcq hc
     go_wp2_with fail
     refine (quoted_ok g s i bs nm an cl _ HW.out.pc HS.out hp (by have := HW.out.said; have := HS.out; omega)).mono ?_
     rintro e w1 ⟨rfl, h1, hk1⟩
     have H1 := Aside0.mk h1
     have HK1 := Aside0.mk hk1
     have HQ := Aside0.mk (quoF_len _ (s.data.toList.drop (i + 1)) (Nat.le_refl _))
     have HQ2 := Aside0.mk (quoF_len2 _ (s.data.toList.drop (i + 1)) (Nat.le_refl _))
     have HQ3 := Aside0.mk (show (s.data.toList.drop (i + 1)).length = s.size - (i + 1) by simp)
     clear h1 hk1
     go_wp2_with fail
     go_step3
     show Exit.two 0 1 (AdrJ0 w s r) (fun a' w' => ∃ m, m < n + 1 ∧ AdrJ1 w s r m a' w') (bodyPost Tryd.prog Tryd.f17 fun e w' => ∃ v0_, e = .returned v0_ ∧ Kd.R k33 33 w' w.heap.size (fun _ => True) v0_ r ∧ Below w.heap.size w w') (.goto 1) _ _
     exact Exit.two_goto1 ⟨n, by omega, g, i + 1 + (quoF (s.data.toList.drop (i + 1))).2, inb, _, nm, an, cl, v3, out, AdrAt_of rfl, ⟨HW.out.kp H1.out HK1.out (by have := HW.out.said; have := HQ2.out; split <;> simp <;> omega) (by omega)⟩, ⟨by have := HQ.out; have := HQ3.out; omega⟩, H'⟩
    ·
     rw [if_neg h34] at H
     by_cases h40 : c = 40
     ·
      rw [if_pos h40] at H
      have e34 : (((s[i]'hp).toNat : Int) == 34) = false := by rw [← hcq, h40]; rfl
      have e40 : (((s[i]'hp).toNat : Int) == 40) = true := by rw [← hcq, h40]; rfl
      have e60 : (((s[i]'hp).toNat : Int) == 60) = false := by rw [← hcq, h40]; rfl
      have e62 : (((s[i]'hp).toNat : Int) == 62) = false := by rw [← hcq, h40]; rfl
      have e44 : (((s[i]'hp).toNat : Int) == 44) = false := by rw [← hcq, h40]; rfl
      obtain ⟨t, ht, H⟩ := Option.bind_eq_some_iff.1 H
      have ht1 : (i : Int) < t := by
       apply Classical.byContradiction
       intro hn
       rw [if_neg hn] at H
       cases H
      rw [if_pos ht1] at H
      have ht2 : t ≤ (s.size : Int) := by
       apply Classical.byContradiction
       intro hn
       rw [if_neg hn] at H
       cases H
      rw [if_pos ht2] at H
      have HT := Aside0.mk ht
      clear ht
      have HC := Aside0.mk hcq
      have H' := Aside0.mk H
      clear H hcq hc
      go_wp2_with fail
      refine (header_remark.calls n s (i : Int) t _ HT.out).mono ?_
      rintro e w1 ⟨rfl, hd1⟩
      have HD := Aside0.mk hd1
      clear hd1
      go_wp2_with fail
      go_step3
      show Exit.two 0 1 (AdrJ0 w s r) (fun a' w' => ∃ m, m < n + 1 ∧ AdrJ1 w s r m a' w') (bodyPost Tryd.prog Tryd.f17 fun e w' => ∃ v0_, e = .returned v0_ ∧ Kd.R k33 33 w' w.heap.size (fun _ => True) v0_ r ∧ Below w.heap.size w w') (.goto 1) _ _
      exact Exit.two_goto1 ⟨n, by omega, g, t.toNat, inb, bs, nm, an, cl, v3, out, AdrAt_of (by rw [Int.toNat_of_nonneg (by omega)]), ⟨HW.out.kp (HW.out.pc.later (below_drawn HD.out)) ((Kept.refl _ g _).later (Nat.le_of_lt hg) (below_drawn HD.out)) (by have := HW.out.said; omega) (by omega)⟩, ⟨by omega⟩, H'⟩
     ·
      rw [if_neg h40] at H
      by_cases h60 : c = 60
      ·
       cases inb with
       | false =>
        rw [if_pos ⟨h60, rfl⟩] at H
        have e34 : (((s[i]'hp).toNat : Int) == 34) = false := by rw [← hcq, h60]; rfl
        have e40 : (((s[i]'hp).toNat : Int) == 40) = false := by rw [← hcq, h60]; rfl
        have e60 : (((s[i]'hp).toNat : Int) == 60) = true := by rw [← hcq, h60]; rfl
        have e62 : (((s[i]'hp).toNat : Int) == 62) = false := by rw [← hcq, h60]; rfl
        have e44 : (((s[i]'hp).toNat : Int) == 44) = false := by rw [← hcq, h60]; rfl
        have HC := Aside0.mk hcq
        have H' := Aside0.mk H
        clear H hcq hc
        cases an with
        | true =>
         rw [if_pos rfl] at H'
         go_wp2_with fail
         go_step3
         show Exit.two 0 1 (AdrJ0 w s r) (fun a' w' => ∃ m, m < n + 1 ∧ AdrJ1 w s r m a' w') (bodyPost Tryd.prog Tryd.f17 fun e w' => ∃ v0_, e = .returned v0_ ∧ Kd.R k33 33 w' w.heap.size (fun _ => True) v0_ r ∧ Below w.heap.size w w') (.goto 1) _ _
         exact Exit.two_goto1 ⟨n, by omega, g, i + 1, true, bs, nm, true, cl, v3, out, AdrAt_of (by go_num), ⟨HW.out.kp HW.out.pc (Kept.refl _ g _) (by have := HW.out.said; omega) (by omega)⟩, ⟨by omega⟩, H'⟩
        | false =>
         rw [if_neg (by simp)] at H'
         go_wp2_with fail
         refine (take_ok g bs nm false cl _ HW.out.pc (by have := HW.out.said; have := HS.out; omega)).mono ?_
         rintro e w1 ⟨rfl, h1, hk1⟩
         have H1 := Aside0.mk h1
         have HK1 := Aside0.mk hk1
         have hd1 := h1.cell1
         have hd2 := h1.cell2
         have hq1 := h1.frozen 1
         have hq2 := h1.frozen 2
         have hd3 : (w1.setCell ⟨g, 1, none⟩ (.string ⟨(takeL bs).toArray⟩)).cell? ⟨g, 2, none⟩ = some (.bool false) := (h1.setName _).cell2
         have hq3 : (w1.setCell ⟨g, 1, none⟩ (.string ⟨(takeL bs).toArray⟩)).frozen? ⟨g, 2, none⟩ = false := (h1.setName _).frozen 2
         have H2 := Aside0.mk ((h1.setName ⟨(takeL bs).toArray⟩).setAngle true)
         have HK2 := Aside0.mk ((hk1.setCell 1 (.string ⟨(takeL bs).toArray⟩)).setCell 2 (.bool true))
         clear h1 hk1
         go_wp2_with fail
         go_step3
         show Exit.two 0 1 (AdrJ0 w s r) (fun a' w' => ∃ m, m < n + 1 ∧ AdrJ1 w s r m a' w') (bodyPost Tryd.prog Tryd.f17 fun e w' => ∃ v0_, e = .returned v0_ ∧ Kd.R k33 33 w' w.heap.size (fun _ => True) v0_ r ∧ Below w.heap.size w w') (.goto 1) _ _
         exact Exit.two_goto1 ⟨n, by omega, g, i + 1, true, [], _, true, cl, v3, out, AdrAt_of (by go_num), ⟨HW.out.kp H2.out HK2.out (by simp) (by omega)⟩, ⟨by omega⟩, H'⟩
       | true =>
        rw [if_neg (by simp), if_neg (by rw [h60]; decide), if_neg (by simp)] at H
        have e34 : (((s[i]'hp).toNat : Int) == 34) = false := by rw [← hcq, h60]; rfl
        have e40 : (((s[i]'hp).toNat : Int) == 40) = false := by rw [← hcq, h60]; rfl
        have e60 : (((s[i]'hp).toNat : Int) == 60) = true := by rw [← hcq, h60]; rfl
        have e62 : (((s[i]'hp).toNat : Int) == 62) = false := by rw [← hcq, h60]; rfl
        have e44 : (((s[i]'hp).toNat : Int) == 44) = false := by rw [← hcq, h60]; rfl
        have HC := Aside0.mk hcq
        have H' := Aside0.mk H
        clear H hcq hc
        go_wp2_with fail
        rw [← HC.out]
        refine (tell_ok g c bs nm an cl _ HW.out.pc (by have := HW.out.said; have := HI.out; have := HS.out; omega)).mono ?_
        rintro e w1 ⟨rfl, h1, hk1⟩
        have H1 := Aside0.mk h1
        have HK1 := Aside0.mk hk1
        clear h1 hk1
        go_wp2_with fail
        go_step3
        show Exit.two 0 1 (AdrJ0 w s r) (fun a' w' => ∃ m, m < n + 1 ∧ AdrJ1 w s r m a' w') (bodyPost Tryd.prog Tryd.f17 fun e w' => ∃ v0_, e = .returned v0_ ∧ Kd.R k33 33 w' w.heap.size (fun _ => True) v0_ r ∧ Below w.heap.size w w') (.goto 1) _ _
        exact Exit.two_goto1 ⟨n, by omega, g, i + 1, true, _, nm, an, cl, v3, out, AdrAt_of (by go_num), ⟨HW.out.kp H1.out HK1.out (by have := HW.out.said; split <;> simp <;> omega) (by omega)⟩, ⟨by omega⟩, H'⟩
      ·
       cases inb with
       | false =>
        rw [if_neg (by simp [h60]), if_neg (by simp)] at H
        by_cases h44 : c = 44
        ·
         rw [if_pos ⟨h44, rfl⟩] at H
         have e34 : (((s[i]'hp).toNat : Int) == 34) = false := by rw [← hcq, h44]; rfl
         have e40 : (((s[i]'hp).toNat : Int) == 40) = false := by rw [← hcq, h44]; rfl
         have e60 : (((s[i]'hp).toNat : Int) == 60) = false := by rw [← hcq, h44]; rfl
         have e62 : (((s[i]'hp).toNat : Int) == 62) = false := by rw [← hcq, h44]; rfl
         have e44 : (((s[i]'hp).toNat : Int) == 44) = true := by rw [← hcq, h44]; rfl
         have HC := Aside0.mk hcq
         have H' := Aside0.mk H
         clear H hcq hc
         go_wp2_with fail
         refine (end_ok g bs nm an cl _ HW.out.pc (by have := HW.out.said; have := HS.out; omega)).mono ?_
         rintro e w1 ⟨rfl, h1, hk1⟩
         have H1 := Aside0.mk h1
         have HK1 := Aside0.mk hk1
         have hl1 := h1.lt
         have HW1 := Aside0.mk (HW.out.kp h1 hk1 (by simp) (Nat.le_refl i))
         have hb1 := Aside0.mk HW1.out.below
         clear h1 hk1 H1 HK1
         by_cases hF : isF (endF bs nm an) = true
         ·
          rw [finF, if_pos hF] at H'
          have hFb : isF (endF bs nm an) = true := hF
          go_wp2_with (first | ((with_reducible refine gate_builtin (b := .append) (xs := #[.tmp 87, .tmp 89]) rfl ?_); (try (refine gate_guard (by rfl) ?_; dsimp only)); at_builtin; refine Kd.R_append k33 (w0 := w) w.heap.size rfl (.tmp 87) (.tmp 89) 30 33 (.agg #[(.string ⟨#[]⟩), (.string ⟨#[]⟩), (.string ⟨#[]⟩)]) 48 rfl Tryd.underlying30 info33 rfl (by decide) (by omega) v3 out (adrOf (endF bs nm an)) [.string (endF bs nm an).1, .string (endF bs nm an).2.1, .string (endF bs nm an).2.2] (fun _ => True) (fun _ => False) rfl (by show (Value.slice (some ⟨w1.heap.size + 1, 0, none⟩) 1 1) = _; simp) (k33_mkM _ _ _ (adrOf (endF bs nm an))) (fun _ hk => hk.elim) (fun _ _ => trivial) (Kd.R_alloc HW1.out.row _) (hb1.out.alloc hb1.out.size _) (hb1.out.alloc hb1.out.size _).size (by have := HW.out.outs; have := HI.out; have := HS.out; omega) ?_; intro v9 w9 ho hb hg hat; have HB9 := Aside0.mk hb; have HO9 := Aside0.mk ho; clear ho hb hg hat))
          go_step3
          show Exit.two 0 1 (AdrJ0 w s r) (fun a' w' => ∃ m, m < n + 1 ∧ AdrJ1 w s r m a' w') (bodyPost Tryd.prog Tryd.f17 fun e w' => ∃ v0_, e = .returned v0_ ∧ Kd.R k33 33 w' w.heap.size (fun _ => True) v0_ r ∧ Below w.heap.size w w') (.goto 1) _ _
          exact Exit.two_goto1 ⟨n, by omega, _, i + 1, false, [], ⟨#[]⟩, false, false, v9, _, AdrAt_of (by go_num), ⟨⟨IsPc.fresh _ _ _, HB9.out.size, HB9.out.alloc HB9.out.size _, Kd.R_alloc HO9.out _, by simp, by have := HW.out.outs; simp; omega⟩⟩, ⟨by omega⟩, H'⟩
         ·
          rw [finF, if_neg hF] at H'
          have hFb : isF (endF bs nm an) = false := by simpa using hF
          have hpn : Pc (w1.heap.size + 1) ((w1.alloc (.cells #[.string (endF bs nm an).1, .string (endF bs nm an).2.1, .string (endF bs nm an).2.2] 33)).alloc (.cells #[.slice none 0 0, .string ⟨#[]⟩, .bool false, .bool false] 65)) [] ⟨#[]⟩ false false := by
           have h0 := IsPc.fresh 65 5 (w1.alloc (.cells #[.string (endF bs nm an).1, .string (endF bs nm an).2.1, .string (endF bs nm an).2.2] 33))
           rw [show (w1.alloc (.cells #[.string (endF bs nm an).1, .string (endF bs nm an).2.1, .string (endF bs nm an).2.2] 33)).heap.size = w1.heap.size + 1 by simp] at h0
           exact h0
          have hwn : w.heap.size ≤ w1.heap.size + 1 := Nat.le_succ_of_le hb1.out.size
          have HPN := Aside0.mk hpn
          clear hpn
          go_wp2_with fail
          go_step3
          show Exit.two 0 1 (AdrJ0 w s r) (fun a' w' => ∃ m, m < n + 1 ∧ AdrJ1 w s r m a' w') (bodyPost Tryd.prog Tryd.f17 fun e w' => ∃ v0_, e = .returned v0_ ∧ Kd.R k33 33 w' w.heap.size (fun _ => True) v0_ r ∧ Below w.heap.size w w') (.goto 1) _ _
          exact Exit.two_goto1 ⟨n, by omega, _, i + 1, false, [], ⟨#[]⟩, false, false, v3, _, AdrAt_of (by go_num), ⟨⟨HPN.out, hwn, (hb1.out.alloc hb1.out.size _).alloc (hb1.out.alloc hb1.out.size _).size _, Kd.R_alloc (Kd.R_alloc HW1.out.row _) _, by simp, by have := HW.out.outs; omega⟩⟩, ⟨by omega⟩, H'⟩
        ·
         rw [if_neg (by simp [h44])] at H
         by_cases h62 : c = 62
         ·
          skip
          have e34 : (((s[i]'hp).toNat : Int) == 34) = false := by rw [← hcq, h62]; rfl
          have e40 : (((s[i]'hp).toNat : Int) == 40) = false := by rw [← hcq, h62]; rfl
          have e60 : (((s[i]'hp).toNat : Int) == 60) = false := by rw [← hcq, h62]; rfl
          have e62 : (((s[i]'hp).toNat : Int) == 62) = true := by rw [← hcq, h62]; rfl
          have e44 : (((s[i]'hp).toNat : Int) == 44) = false := by rw [← hcq, h62]; rfl
          have HC := Aside0.mk hcq
          have H' := Aside0.mk H
          clear H hcq hc
          go_wp2_with fail
          rw [← HC.out]
          refine (tell_ok g c bs nm an cl _ HW.out.pc (by have := HW.out.said; have := HI.out; have := HS.out; omega)).mono ?_
          rintro e w1 ⟨rfl, h1, hk1⟩
          have H1 := Aside0.mk h1
          have HK1 := Aside0.mk hk1
          clear h1 hk1
          go_wp2_with fail
          go_step3
          show Exit.two 0 1 (AdrJ0 w s r) (fun a' w' => ∃ m, m < n + 1 ∧ AdrJ1 w s r m a' w') (bodyPost Tryd.prog Tryd.f17 fun e w' => ∃ v0_, e = .returned v0_ ∧ Kd.R k33 33 w' w.heap.size (fun _ => True) v0_ r ∧ Below w.heap.size w w') (.goto 1) _ _
          exact Exit.two_goto1 ⟨n, by omega, g, i + 1, false, _, nm, an, cl, v3, out, AdrAt_of (by go_num), ⟨HW.out.kp H1.out HK1.out (by have := HW.out.said; split <;> simp <;> omega) (by omega)⟩, ⟨by omega⟩, H'⟩
         ·
          skip
          have e34 : (((s[i]'hp).toNat : Int) == 34) = false := by rw [← hcq, beq_eq_false_iff_ne]; exact u8ne (d := 34) h34
          have e40 : (((s[i]'hp).toNat : Int) == 40) = false := by rw [← hcq, beq_eq_false_iff_ne]; exact u8ne (d := 40) h40
          have e60 : (((s[i]'hp).toNat : Int) == 60) = false := by rw [← hcq, beq_eq_false_iff_ne]; exact u8ne (d := 60) h60
          have e62 : (((s[i]'hp).toNat : Int) == 62) = false := by rw [← hcq, beq_eq_false_iff_ne]; exact u8ne (d := 62) h62
          have e44 : (((s[i]'hp).toNat : Int) == 44) = false := by rw [← hcq, beq_eq_false_iff_ne]; exact u8ne (d := 44) h44
          have HC := Aside0.mk hcq
          have H' := Aside0.mk H
          clear H hcq hc
          go_wp2_with fail
          rw [← HC.out]
          refine (tell_ok g c bs nm an cl _ HW.out.pc (by have := HW.out.said; have := HI.out; have := HS.out; omega)).mono ?_
          rintro e w1 ⟨rfl, h1, hk1⟩
          have H1 := Aside0.mk h1
          have HK1 := Aside0.mk hk1
          clear h1 hk1
          go_wp2_with fail
          go_step3
          show Exit.two 0 1 (AdrJ0 w s r) (fun a' w' => ∃ m, m < n + 1 ∧ AdrJ1 w s r m a' w') (bodyPost Tryd.prog Tryd.f17 fun e w' => ∃ v0_, e = .returned v0_ ∧ Kd.R k33 33 w' w.heap.size (fun _ => True) v0_ r ∧ Below w.heap.size w w') (.goto 1) _ _
          exact Exit.two_goto1 ⟨n, by omega, g, i + 1, false, _, nm, an, cl, v3, out, AdrAt_of (by go_num), ⟨HW.out.kp H1.out HK1.out (by have := HW.out.said; split <;> simp <;> omega) (by omega)⟩, ⟨by omega⟩, H'⟩
       | true =>
        rw [if_neg (by simp)] at H
        by_cases h62 : c = 62
        ·
         rw [if_pos ⟨h62, rfl⟩] at H
         have e34 : (((s[i]'hp).toNat : Int) == 34) = false := by rw [← hcq, h62]; rfl
         have e40 : (((s[i]'hp).toNat : Int) == 40) = false := by rw [← hcq, h62]; rfl
         have e60 : (((s[i]'hp).toNat : Int) == 60) = false := by rw [← hcq, h62]; rfl
         have e62 : (((s[i]'hp).toNat : Int) == 62) = true := by rw [← hcq, h62]; rfl
         have e44 : (((s[i]'hp).toNat : Int) == 44) = false := by rw [← hcq, h62]; rfl
         have HC := Aside0.mk hcq
         have H' := Aside0.mk H
         clear H hcq hc
         go_wp2_with fail
         go_step3
         show Exit.two 0 1 (AdrJ0 w s r) (fun a' w' => ∃ m, m < n + 1 ∧ AdrJ1 w s r m a' w') (bodyPost Tryd.prog Tryd.f17 fun e w' => ∃ v0_, e = .returned v0_ ∧ Kd.R k33 33 w' w.heap.size (fun _ => True) v0_ r ∧ Below w.heap.size w w') (.goto 1) _ _
         exact Exit.two_goto1 ⟨n, by omega, g, i + 1, false, bs, nm, an, true, v3, out, AdrAt_of (by go_num), ⟨HW.out.kp (HW.out.pc.setClosed true) ((Kept.refl _ g _).setCell 3 _) (by have := HW.out.said; omega) (by omega)⟩, ⟨by omega⟩, H'⟩
        ·
         rw [if_neg (by simp [h62]), if_neg (by simp)] at H
         by_cases h44 : c = 44
         ·
          skip
          have e34 : (((s[i]'hp).toNat : Int) == 34) = false := by rw [← hcq, h44]; rfl
          have e40 : (((s[i]'hp).toNat : Int) == 40) = false := by rw [← hcq, h44]; rfl
          have e60 : (((s[i]'hp).toNat : Int) == 60) = false := by rw [← hcq, h44]; rfl
          have e62 : (((s[i]'hp).toNat : Int) == 62) = false := by rw [← hcq, h44]; rfl
          have e44 : (((s[i]'hp).toNat : Int) == 44) = true := by rw [← hcq, h44]; rfl
          have HC := Aside0.mk hcq
          have H' := Aside0.mk H
          clear H hcq hc
          go_wp2_with fail
          rw [← HC.out]
          refine (tell_ok g c bs nm an cl _ HW.out.pc (by have := HW.out.said; have := HI.out; have := HS.out; omega)).mono ?_
          rintro e w1 ⟨rfl, h1, hk1⟩
          have H1 := Aside0.mk h1
          have HK1 := Aside0.mk hk1
          clear h1 hk1
          go_wp2_with fail
          go_step3
          show Exit.two 0 1 (AdrJ0 w s r) (fun a' w' => ∃ m, m < n + 1 ∧ AdrJ1 w s r m a' w') (bodyPost Tryd.prog Tryd.f17 fun e w' => ∃ v0_, e = .returned v0_ ∧ Kd.R k33 33 w' w.heap.size (fun _ => True) v0_ r ∧ Below w.heap.size w w') (.goto 1) _ _
          exact Exit.two_goto1 ⟨n, by omega, g, i + 1, true, _, nm, an, cl, v3, out, AdrAt_of (by go_num), ⟨HW.out.kp H1.out HK1.out (by have := HW.out.said; split <;> simp <;> omega) (by omega)⟩, ⟨by omega⟩, H'⟩
         ·
          skip
          have e34 : (((s[i]'hp).toNat : Int) == 34) = false := by rw [← hcq, beq_eq_false_iff_ne]; exact u8ne (d := 34) h34
          have e40 : (((s[i]'hp).toNat : Int) == 40) = false := by rw [← hcq, beq_eq_false_iff_ne]; exact u8ne (d := 40) h40
          have e60 : (((s[i]'hp).toNat : Int) == 60) = false := by rw [← hcq, beq_eq_false_iff_ne]; exact u8ne (d := 60) h60
          have e62 : (((s[i]'hp).toNat : Int) == 62) = false := by rw [← hcq, beq_eq_false_iff_ne]; exact u8ne (d := 62) h62
          have e44 : (((s[i]'hp).toNat : Int) == 44) = false := by rw [← hcq, beq_eq_false_iff_ne]; exact u8ne (d := 44) h44
          have HC := Aside0.mk hcq
          have H' := Aside0.mk H
          clear H hcq hc
          go_wp2_with fail
          rw [← HC.out]
          refine (tell_ok g c bs nm an cl _ HW.out.pc (by have := HW.out.said; have := HI.out; have := HS.out; omega)).mono ?_
          rintro e w1 ⟨rfl, h1, hk1⟩
          have H1 := Aside0.mk h1
          have HK1 := Aside0.mk hk1
          clear h1 hk1
          go_wp2_with fail
          go_step3
          show Exit.two 0 1 (AdrJ0 w s r) (fun a' w' => ∃ m, m < n + 1 ∧ AdrJ1 w s r m a' w') (bodyPost Tryd.prog Tryd.f17 fun e w' => ∃ v0_, e = .returned v0_ ∧ Kd.R k33 33 w' w.heap.size (fun _ => True) v0_ r ∧ Below w.heap.size w w') (.goto 1) _ _
          exact Exit.two_goto1 ⟨n, by omega, g, i + 1, true, _, nm, an, cl, v3, out, AdrAt_of (by go_num), ⟨HW.out.kp H1.out HK1.out (by have := HW.out.said; split <;> simp <;> omega) (by omega)⟩, ⟨by omega⟩, H'⟩
   ·
    rw [if_neg hp] at H
    have HR := Aside0.mk (Option.some.inj H)
    clear H
    have hge : (s.size : Int) ≤ (i : Int) := by omega
    have hgeb : decide ((s.size : Int) ≤ (i : Int)) = true := decide_eq_true hge
    go_wp2_with fail
    go_step3
    show Exit.two 0 1 (AdrJ0 w s r) (fun a' w' => ∃ m, m < n + 1 ∧ AdrJ1 w s r m a' w') (bodyPost Tryd.prog Tryd.f17 fun e w' => ∃ v0_, e = .returned v0_ ∧ Kd.R k33 33 w' w.heap.size (fun _ => True) v0_ r ∧ Below w.heap.size w w') (.goto 0) _ _
    exact Exit.two_goto0 ⟨g, i, bs, nm, an, cl, v3, _, _, out, AdrAt_of rfl, HW, HI, HR⟩
end Go.Proofs.YtkngjdhggcaonaaDoor.PP
