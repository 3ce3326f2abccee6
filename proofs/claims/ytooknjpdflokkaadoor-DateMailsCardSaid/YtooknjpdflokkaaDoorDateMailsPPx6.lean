/- YtooknjpdflokkaaDoorPPx6, as far as DateMails needs it (prune.py). -/
import Derived.Test.YtooknjpdflokkaaDoorDateMailsPPx0
import Derived.Test.YtooknjpdflokkaaDoorDateMailsPPx4
import Derived.Test.YtooknjpdflokkaaDoorDateMailsPPx5
namespace Go.Proofs.YtooknjpdflokkaaDoor.PP
open Go.RowKit Go.Proofs.YtooknjpdflokkaaDoorW.PrintWords Go.Proofs.YtooknjpdflokkaaDoorW.PrintLast Go.Proofs.YtooknjpdflokkaaDoorW.PrintMore
attribute [local go_sem] max2_int min2_int max_two min_two max_three min_three max_four min_four   -- for this text's walks alone
open Go.Proofs.YtooknjpdflokkaaDoor.My
set_option linter.unusedVariables false
set_option linter.unusedSimpArgs false
theorem hasPrefix_is (l p : List UInt8) : strings_HasPrefix.f ⟨l.toArray⟩ ⟨p.toArray⟩ = some (p.isPrefixOf l) := by
 unfold strings_HasPrefix.f stringslite_HasPrefix.f
 simp only [ba_size]
 by_cases h : p.length ≤ l.length
 ·
  rw [if_pos (by omega), if_pos (by omega), if_pos (by omega)]
  simp only [Int.toNat_natCast, ba_extract, ba_toList, List.drop_zero, prefix_take p l h, Option.bind_some]
 ·
  rw [if_neg (by omega)]
  have : p.isPrefixOf l = false := by
   cases e : p.isPrefixOf l with
   | false => rfl
   | true => exact absurd (prefix_le e) h
  simp [this]
def isDig (c : UInt8) : Bool := decide (48 ≤ c) && decide (c ≤ 57)
theorem digit_cons (c : UInt8) (r : List UInt8) : date_digit.f ⟨(c :: r).toArray⟩ = some (isDig c) := by
 unfold date_digit.f
 have hb := ba_bt (c :: r) 0 (by simp)
 simp only [ba_toList, ba_size]
 rw [if_neg (by simp), if_pos (by simp)]
 have e : bt ⟨(c :: r).toArray⟩ 0 = (c.toNat : Int) := hb
 rw [e]
 unfold isDig
 by_cases h : 48 ≤ (c.toNat : Int)
 ·
  rw [if_pos h]
  have h1 : 48 ≤ c := UInt8.le_iff_toNat_le.2 (by simp; omega)
  simp only [h1, decide_true, Bool.true_and]
  congr 1
  rw [Bool.eq_iff_iff, decide_eq_true_iff, decide_eq_true_iff, UInt8.le_iff_toNat_le]
  simp; omega
 ·
  rw [if_neg h]
  have h1 : ¬ 48 ≤ c := fun h' => h (by have := UInt8.le_iff_toNat_le.1 h'; simp at this; omega)
  simp [h1]
theorem digit_nil : date_digit.f ⟨([] : List UInt8).toArray⟩ = some false := by
 unfold date_digit.f
 rw [if_pos (by rw [ba_toList])]
def mustL (t l : List UInt8) : Option (List UInt8) := if t.isPrefixOf l then some (l.drop t.length) else none
def faultV : List PanicEntry := [{ v := .iface 68 (.agg #[]), recovered := false }]
theorem must_ok (g : Nat) (t l l' : List UInt8) (w : World) (hr : Rdr w g 49 l) (h : mustL t l = some l') :
  Calls Tryd.prog 21 #[.pointer (some ⟨g, 0, none⟩), .string ⟨t.toArray⟩] w fun e w' => e = .returned (.tuple #[]) ∧ Rdr w' g 49 l' ∧ w.grownBy w' (some g) := by
 unfold mustL at h
 split at h
 case isFalse => cases h
 rename_i hp
 injection h with h
 have hc := hr.cell
 have hf := hr.frozen
 have HR := Aside0.mk hr
 have HH := Aside0.mk h
 have HP := Aside0.mk hp
 clear hr h hp
 go_enter Tryd.func21, Tryd.ntmps21
 go_wp2_with fail
 refine (strings_HasPrefix.calls _ _ true _ (by rw [hasPrefix_is, HP.out])).mono ?_
 rintro e w1 ⟨rfl, ⟨⟨n, rfl⟩⟩⟩
 have hle := prefix_le HP.out
 go_wp2
 go_end0
 rw [ba_drop, HH.out]
 exact ⟨rfl, (HR.out.drewN n).set _, only_setCell (only_drewN (only_refl w g) n) (.inl rfl) _⟩
theorem must_no (g : Nat) (t l : List UInt8) (w : World) (hr : Rdr w g 49 l) (h : mustL t l = none) :
  Calls Tryd.prog 21 #[.pointer (some ⟨g, 0, none⟩), .string ⟨t.toArray⟩] w fun e w' => e = .panicked faultV ∧ w.grownBy w' (some g) := by
 unfold mustL at h
 split at h
 case isTrue => cases h
 rename_i hp
 have hc := hr.cell
 have hf := hr.frozen
 have HP := Aside0.mk (Bool.eq_false_iff.2 hp)
 clear hr h hp
 go_enter Tryd.func21, Tryd.ntmps21
 go_wp2_with fail
 refine (strings_HasPrefix.calls _ _ false _ (by rw [hasPrefix_is, HP.out])).mono ?_
 rintro e w1 ⟨rfl, ⟨⟨n, rfl⟩⟩⟩
 go_wp2
 exact ⟨rfl, rfl, only_drewN (only_refl w g) n⟩
def valL (l : List UInt8) : Int := l.foldl (fun x c => 10 * x + ((c.toNat : Int) - 48)) 0
def digs (n : Nat) (l : List UInt8) : List UInt8 := (l.take n).takeWhile isDig
def numberL (least most : Nat) (l : List UInt8) : Option (Int × List UInt8) :=
 if least ≤ (digs most l).length then some (valL (digs most l), l.drop (digs most l).length) else none
theorem digs_le (n : Nat) (l : List UInt8) : (digs n l).length ≤ n ∧ (digs n l).length ≤ l.length := by
 have h := (List.takeWhile_sublist isDig (l := l.take n)).length_le
 rw [List.length_take] at h
 unfold digs; omega
theorem digs_take (n : Nat) (l : List UInt8) : digs n l = l.take (digs n l).length := by
 have h : digs n l <+: l := (List.takeWhile_prefix isDig).trans (List.take_prefix n l)
 exact (List.prefix_iff_eq_take.1 h)
theorem digs_at (n : Nat) (l : List UInt8) (k : Nat) (h : k < (digs n l).length) : ∃ c r, l.drop k = c :: r ∧ isDig c = true ∧ l.take (k + 1) = l.take k ++ [c] := by
 have hl := (digs_le n l).2
 have hk : k < l.length := by omega
 refine ⟨l[k], l.drop (k + 1), List.drop_eq_getElem_cons hk, ?_, List.take_succ_eq_append_getElem hk⟩
 have hm : (digs n l)[k] ∈ digs n l := List.getElem_mem h
 have h1 : (digs n l)[k] = l[k] := by
  have := digs_take n l
  have e : (digs n l)[k]? = (l.take (digs n l).length)[k]? := by rw [← this]
  rw [List.getElem?_eq_getElem h, List.getElem?_take_of_lt h, List.getElem?_eq_getElem hk] at e
  injection e
 rw [← h1]
 have ha : (digs n l).all isDig = true := List.all_takeWhile
 exact List.all_eq_true.1 ha _ hm
theorem digs_end (n : Nat) (l : List UInt8) (h : (digs n l).length < n) : ∀ c r, l.drop (digs n l).length = c :: r → isDig c = false := by
 intro c r hd
 unfold digs at h hd
 generalize hm : l.take n = m at *
 have hlen : (m.takeWhile isDig).length ≤ m.length := (List.takeWhile_sublist isDig).length_le
 have hdm : m.drop (m.takeWhile isDig).length = m.dropWhile isDig := by
  have h1 := List.takeWhile_append_dropWhile (p := isDig) (l := m)
  have h2 := List.drop_left (l₁ := m.takeWhile isDig) (l₂ := m.dropWhile isDig)
  rw [h1] at h2
  exact h2
 have hne : (m.takeWhile isDig).length < m.length := by
  rcases Nat.lt_or_ge (m.takeWhile isDig).length m.length with h1 | h1
  ·
   exact h1
  ·
   have h2 : m.length = min n l.length := by rw [← hm, List.length_take]
   have h3 : (l.drop (m.takeWhile isDig).length).length = r.length + 1 := by rw [hd]; rfl
   rw [List.length_drop] at h3
   omega
 have hc : m[(m.takeWhile isDig).length]? = some c := by
  rw [← hm, List.getElem?_take_of_lt (by rw [hm]; exact h), hm]
  have h1 : (l.drop (m.takeWhile isDig).length)[0]? = some c := by rw [hd]; rfl
  simpa using h1
 cases hw : m.dropWhile isDig with
 | nil => rw [hw] at hdm; have := congrArg List.length hdm; simp at this; omega
 | cons a b =>
  have ha : isDig a = false := by
   have := List.head?_dropWhile_not isDig m
   rw [hw] at this
   simpa using this
  rw [hw] at hdm
  have h1 : (m.drop (m.takeWhile isDig).length)[0]? = some a := by rw [hdm]; rfl
  simp at h1
  rw [h1] at hc
  injection hc with hc
  rw [← hc]; exact ha
theorem valL_snoc (l : List UInt8) (c : UInt8) : valL (l ++ [c]) = 10 * valL l + ((c.toNat : Int) - 48) := by
 unfold valL; simp
theorem valL_bd (l : List UInt8) (h : ∀ c ∈ l, isDig c = true) : 0 ≤ valL l ∧ valL l < 10 ^ l.length := by
 have key : ∀ (l : List UInt8) (x : Int) (b : Int), (∀ c ∈ l, isDig c = true) → 0 ≤ x → x < b → 0 ≤ l.foldl (fun x c => 10 * x + ((c.toNat : Int) - 48)) x ∧ l.foldl (fun x c => 10 * x + ((c.toNat : Int) - 48)) x < b * 10 ^ l.length := by
  intro l
  induction l with
  | nil => intro x b _ h0 h1; simpa using ⟨h0, h1⟩
  | cons c l ih =>
   intro x b hd h0 h1
   have hc := hd c (by simp)
   unfold isDig at hc
   simp only [Bool.and_eq_true, decide_eq_true_iff] at hc
   have h2 := UInt8.le_iff_toNat_le.1 hc.1
   have h3 := UInt8.le_iff_toNat_le.1 hc.2
   simp at h2 h3
   have := ih (10 * x + ((c.toNat : Int) - 48)) (10 * b) (fun d hd' => hd d (by simp [hd'])) (by omega) (by omega)
   simp only [List.foldl_cons, List.length_cons, Int.pow_succ]
   refine ⟨this.1, ?_⟩
   have e : b * (10 ^ l.length * 10) = 10 * b * 10 ^ l.length := by rw [Int.mul_comm (10 ^ l.length) 10, ← Int.mul_assoc, Int.mul_comm b 10]
   rw [e]
   exact this.2
 have := key l 0 1 h (by omega) (by omega)
 simpa [valL] using this
theorem numberL_some {least most : Nat} {l : List UInt8} {x : Int} {l' : List UInt8} (h : numberL least most l = some (x, l')) :
  least ≤ (digs most l).length ∧ valL (digs most l) = x ∧ l.drop (digs most l).length = l' := by
 unfold numberL at h
 split at h
 ·
  injection h with h; injection h with h1 h2; exact ⟨by assumption, h1, h2⟩
 ·
  cases h
set_option maxHeartbeats 1000000 in
set_option maxRecDepth 100000 in
theorem number_any (g : Nat) (least most : Nat) (l : List UInt8) (w : World) (hr : Rdr w g 49 l) (hm : most ≤ 9) (hle : least ≤ 9) (R : Ending → World → Prop)
  (hok : least ≤ (digs most l).length → ∀ w', Rdr w' g 49 (l.drop (digs most l).length) → w.grownBy w' (some g) → R (.returned (.int .i64 (valL (digs most l)))) w')
  (hno : ¬ least ≤ (digs most l).length → ∀ w', w.grownBy w' (some g) → R (.panicked faultV) w') :
  Calls Tryd.prog 23 #[.pointer (some ⟨g, 0, none⟩), .int .i64 least, .int .i64 most] w R := by
 have HR := Aside0.mk hr
 have HO := Aside0.mk hok
 have HN := Aside0.mk hno
 clear hr hok hno
 have hd0 := digs_le most l
 go_enter Tryd.func23, Tryd.ntmps23
 go_wp2
 go_loopw [7, 8] (fun vx vn wr => ∃ k : Nat, k ≤ (digs most l).length ∧ vx = .int .i64 (valL (l.take k)) ∧ vn = .int .i64 k ∧ Aside0 (Rdr wr g 49 (l.drop k)) ∧ Aside0 (w.grownBy wr (some g))) (fun _ vn _ => 10 - (intOf vn).toNat)
 case atStart => exact ⟨0, Nat.zero_le _, rfl, rfl, HR, ⟨only_refl w g⟩⟩
 case round =>
  obtain ⟨k, hk, rfl, rfl, HRk, HG⟩ := hrel
  have hc := HRk.out.cell
  have hf := HRk.out.frozen
  by_cases hlt : k < (digs most l).length
  ·
   obtain ⟨c, r, hd, hdig, htk⟩ := digs_at most l k hlt
   have hv := valL_bd (l.take k) (fun d hd => List.all_eq_true.1 List.all_takeWhile d (by
    have h1 : l.take k <+: digs most l := by
     rw [digs_take most l]
     exact List.take_prefix_take_left (by omega)
    exact h1.subset hd))
   have hp : (10 : Int) ^ (l.take k).length ≤ 10 ^ 9 := by
    have h1 : (l.take k).length ≤ 9 := by rw [List.length_take]; omega
    exact_mod_cast Nat.pow_le_pow_right (by omega) h1
   have hv1 : 0 ≤ valL (l.take k) := hv.1
   have hv2 : valL (l.take k) < 1000000000 := by have := hv.2; omega
   have hsn := valL_snoc (l.take k) c
   rw [← htk] at hsn
   obtain ⟨x, hx⟩ : ∃ x, x = valL (l.take k) := ⟨_, rfl⟩
   rw [← hx] at hv1 hv2 hsn ⊢
   have HX := Aside0.mk hx
   have HS := Aside0.mk hsn
   have HD := Aside0.mk hd
   have HDg := Aside0.mk hdig
   unfold isDig at hdig
   simp only [Bool.and_eq_true, decide_eq_true_iff] at hdig
   obtain ⟨n, hn⟩ : ∃ n : Int, n = (c.toNat : Int) := ⟨_, rfl⟩
   have hn0 : 48 ≤ n := by have := UInt8.le_iff_toNat_le.1 hdig.1; simp at this; omega
   have hn1 : n ≤ 57 := by have := UInt8.le_iff_toNat_le.1 hdig.2; simp at this; omega
   have HNc := Aside0.mk hn
   have hkm : k < most := by omega
   rw [hd] at hc
   clear hv hp hx hsn hd htk hdig hn
   go_wp2_with fail
   refine (date_digit.calls _ true _ (by rw [digit_cons, HDg.out])).mono ?_
   rintro e w1 ⟨rfl, ⟨⟨n1, rfl⟩⟩⟩
   go_wp2
   go_roundw
   case rel =>
    have hdr : l.drop (k + 1) = r := by rw [← List.drop_drop, HD.out]; rfl
    have hex : ByteArray.extract ⟨(c :: r).toArray⟩ 1 (r.length + 1) = ⟨r.toArray⟩ := ba_drop (c :: r) 1
    refine ⟨k + 1, by omega, ?_, by go_num, ⟨?_⟩, ⟨?_⟩⟩
    ·
     rw [HS.out]
     show Value.int .i64 (10 * x + ((c.toNat : Int) - 48) % 256) = _
     congr 1
     have := HNc.out
     omega
    ·
     rw [hdr, hex]
     exact (HRk.out.drewN n1).set r
    ·
     exact only_setCell (only_drewN HG.out n1) (.inl rfl) _
   case measure => simp [intOf]; omega
  ·
   obtain rfl : k = (digs most l).length := by omega
   have htake : l.take (digs most l).length = digs most l := (digs_take most l).symm
   rw [htake]
   have hk9 : (digs most l).length ≤ 9 := by omega
   by_cases hm2 : (digs most l).length < most
   ·
    have hdg : date_digit.f ⟨(l.drop (digs most l).length).toArray⟩ = some false := by
     cases hdr : l.drop (digs most l).length with
     | nil => exact digit_nil
     | cons c r => rw [digit_cons, digs_end most l hm2 c r hdr]
    have HDG := Aside0.mk hdg
    clear hdg htake hlt
    generalize hN : (digs most l).length = N at *
    have HNN := Aside0.mk hN
    clear hN
    by_cases hl : least ≤ N
    ·
     have hl2 : ¬ (N : Int) < least := by omega
     go_wp2_with fail
     refine (date_digit.calls _ false _ HDG.out).mono ?_
     rintro e w1 ⟨rfl, ⟨⟨n1, rfl⟩⟩⟩
     go_wp2
     exact HO.out hl _ (HRk.out.drewN n1) (only_drewN HG.out n1)
    ·
     go_wp2_with fail
     refine (date_digit.calls _ false _ HDG.out).mono ?_
     rintro e w1 ⟨rfl, ⟨⟨n1, rfl⟩⟩⟩
     go_wp2
     exact ⟨rfl, HN.out hl _ (only_drewN HG.out n1)⟩
   ·
    have he : (digs most l).length = most := by omega
    clear htake hlt
    generalize hN : (digs most l).length = N at *
    obtain rfl : N = most := he
    have HNN := Aside0.mk hN
    clear hN hm2
    by_cases hl : least ≤ N
    ·
     go_wp2
     exact HO.out hl _ HRk.out HG.out
    ·
     go_wp2
     exact ⟨rfl, HN.out hl _ HG.out⟩
theorem must_any (g : Nat) (t l : List UInt8) (w : World) (hr : Rdr w g 49 l) (R : Ending → World → Prop)
  (hok : ∀ l', mustL t l = some l' → ∀ w', Rdr w' g 49 l' → w.grownBy w' (some g) → R (.returned (.tuple #[])) w')
  (hno : mustL t l = none → ∀ w', w.grownBy w' (some g) → R (.panicked faultV) w') :
  Calls Tryd.prog 21 #[.pointer (some ⟨g, 0, none⟩), .string ⟨t.toArray⟩] w R := by
 cases h : mustL t l with
 | none => exact (must_no g t l w hr h).mono fun e w' ⟨he, hg⟩ => by subst he; exact hno h w' hg
 | some l' => exact (must_ok g t l l' w hr h).mono fun e w' ⟨he, h1, hg⟩ => by subst he; exact hok l' h w' h1 hg
def lowB (s : ByteArray) : ByteArray := ⟨(lowL s.data.toList).toArray⟩
theorem lower_any (s : ByteArray) (w : World) (hs : s.size ≤ 9223372036854775807) :
  Calls Tryd.prog 26 #[.string s] w fun e w' => e = .returned (.string (lowB s)) ∧ Below w.heap.size w w' :=
 date_lower.calls s _ w (by unfold date_lower.f; rw [if_pos hs]; rfl)
def nameP (all l : List UInt8) (j : Nat) : Bool := lowL (l.take 3) == lowL ((all.drop (3 * j)).take 3)
def nameL (all l : List UInt8) : Option Nat := if 3 ≤ l.length then (List.range (all.length / 3)).find? (nameP all l) else none
/-- What a region that reads the text keeps. -/
def KeepR (w0 : World) (g : Nat) (t : TypeId) (l : List UInt8) (W : World) : Prop := Rdr W g t l ∧ w0.grownBy W (some g)
theorem keepR_drew {w0 W : World} {g : Nat} {t : TypeId} {l : List UInt8} (h : Aside0 (KeepR w0 g t l W)) : W.drew.cell? ⟨g, 0, none⟩ = some (.string ⟨l.toArray⟩) ∧ W.drew.frozen? ⟨g, 0, none⟩ = false ∧ Aside0 (KeepR w0 g t l W.drew) :=
 ⟨h.out.1.drew.cell, h.out.1.drew.frozen, ⟨h.out.1.drew, only_drew h.out.2⟩⟩
theorem keepR_below {B : Nat} {w0 W W1 : World} {g : Nat} {t : TypeId} {l : List UInt8} (hb : Below B W W1) (hB : B = W.heap.size) (hS : W.cell? ⟨g, 0, none⟩ = some (.string ⟨l.toArray⟩) ∧ W.frozen? ⟨g, 0, none⟩ = false ∧ Aside0 (KeepR w0 g t l W)) : W1.cell? ⟨g, 0, none⟩ = some (.string ⟨l.toArray⟩) ∧ W1.frozen? ⟨g, 0, none⟩ = false ∧ Aside0 (KeepR w0 g t l W1) :=
 have h1 := hS.2.2.out.1.below (hB ▸ hb) hS.2.2.out.1.lt
 ⟨h1.cell, h1.frozen, ⟨h1, only_below hS.2.2.out.2 (hB ▸ hb)⟩⟩
theorem nameL_at {all l : List UInt8} {k : Nat} (h3 : 3 ≤ l.length) (hk : k < all.length / 3) (hp : nameP all l k = true) (hj : ∀ j, j < k → nameP all l j = false) : nameL all l = some k := by
 unfold nameL
 rw [if_pos h3, List.find?_range_eq_some]
 exact ⟨hp, List.mem_range.2 hk, fun j hj' => by rw [hj j hj']; rfl⟩
theorem nameL_none {all l : List UInt8} {m : Nat} (hm : all.length / 3 = m) (hj : ∀ j, j < m → nameP all l j = false) : nameL all l = none := by
 unfold nameL
 split
 ·
  rw [List.find?_eq_none]
  intro j hj'
  rw [hj j (hm ▸ List.mem_range.1 hj')]; simp
 ·
  rfl
theorem nameP_is (all l : List UInt8) (k : Nat) : ((lowB (ByteArray.extract ⟨l.toArray⟩ 0 3)).toList == (lowB (ByteArray.extract ⟨all.toArray⟩ (3 * k) (3 * k + 3))).toList) = nameP all l k := by
 rw [ba_extract, ba_extract]
 unfold lowB nameP
 rw [ba_toList, ba_toList, List.drop_zero]
 simp only [List.drop_take]
 rw [show 3 * k + 3 - 3 * k = 3 from by omega]
set_option maxHeartbeats 1000000 in
set_option maxRecDepth 100000 in
theorem name_any (g : Nat) (all l : List UInt8) (m : Nat) (hall : all.length = 3 * m) (hm : m ≤ 12) (hll : l.length ≤ 9223372036854775807) (w : World) (hr : Rdr w g 49 l) (R : Ending → World → Prop)
  (hok : ∀ j, nameL all l = some j → ∀ w', Rdr w' g 49 (l.drop 3) → w.grownBy w' (some g) → R (.returned (.int .i64 ((j : Int) + 1))) w')
  (hno : nameL all l = none → ∀ w', Rdr w' g 49 l → w.grownBy w' (some g) → R (.returned (.int .i64 0)) w') :
  Calls Tryd.prog 20 #[.pointer (some ⟨g, 0, none⟩), .string ⟨all.toArray⟩] w R := by
 have HO := Aside0.mk hok
 have HN := Aside0.mk hno
 have HA := Aside0.mk hall
 have hc := hr.cell
 have HR := Aside0.mk hr
 clear hok hno hall hr
 by_cases h3 : 3 ≤ l.length
 ·
  have i3 : (3 : Int) ≤ (l.length : Int) := by omega
  have h3b : decide ((3 : Int) ≤ (l.length : Int)) = true := decide_eq_true i3
  go_enter Tryd.func20, Tryd.ntmps20
  go_wp2
  go_loopw [5] (fun vi wr => ∃ k : Nat, k ≤ m ∧ vi = .int .i64 (3 * (k : Int)) ∧ Aside0 (∀ j, j < k → nameP all l j = false) ∧ Aside0 (KeepR w g 49 l wr)) (fun vi _ => 40 - (intOf vi).toNat)
  case atStart => exact ⟨0, Nat.zero_le _, rfl, ⟨fun j hj => absurd hj (by omega)⟩, ⟨HR.out, only_refl w g⟩⟩
  case round =>
   obtain ⟨k, hk, rfl, HJ, HK⟩ := hrel
   have hck := HK.out.1.cell
   have hfk := HK.out.1.frozen
   have hal := HA.out
   by_cases hlt : k < m
   ·
    have hl1 : 3 * k < all.length := by omega
    have hl2 : 3 * k + 3 ≤ all.length := by omega
    have ha2 : all.length ≤ 36 := by omega
    have i0 : (0 : Int) ≤ 3 * (k : Int) := by omega
    have i1 : 3 * (k : Int) ≤ 3 * (k : Int) + 3 := by omega
    have i2 : 3 * (k : Int) + 3 ≤ (all.length : Int) := by omega
    have iw : IntKind.i64.wrap (3 * (k : Int) + 3) = 3 * (k : Int) + 3 := IntWalk.i64_in _ (by omega)
    have e1 : (3 * (k : Int)).toNat = 3 * k := by omega
    have e2 : (3 * (k : Int) + 3).toNat = 3 * k + 3 := by omega
    clear hal
    cases hP : nameP all l k with
    | true =>
     have hb2 : ((lowB (ByteArray.extract ⟨l.toArray⟩ 0 3)).toList == (lowB (ByteArray.extract ⟨all.toArray⟩ (3 * k) (3 * k + 3))).toList) = true := (nameP_is all l k).trans hP
     have HP := Aside0.mk hP
     clear hP
     go_wp2_with fail
     go_region_held3 (fun W => W.cell? ⟨g, 0, none⟩ = some (.string ⟨l.toArray⟩) ∧ W.frozen? ⟨g, 0, none⟩ = false ∧ Aside0 (KeepR w g 49 l W)) (first | exact keepR_drew HK | exact keepR_below (by assumption) rfl (by assumption)) (first | (go_at_call 26; refine (lower_any _ _ ?hs).mono ?_; (case hs => (simp [ba_size, ba_extract]; omega)); rintro e w1 ⟨rfl, hb⟩))
     go_wp2_with fail
     have hH : Aside0 (KeepR w g 49 l _) := (by assumption : _ ∧ _ ∧ Aside0 (KeepR w g 49 l _)).2.2
     have hf3 : nameL all l = some k := nameL_at (by omega) (by rw [HA.out]; omega) HP.out HJ.out
     have hfin := HO.out k hf3 _ (hH.out.1.set (l.drop 3)) (only_setCell hH.out.2 (.inl rfl) _)
     rw [← ba_drop] at hfin
     exact hfin
    | false =>
     have hb2 : ((lowB (ByteArray.extract ⟨l.toArray⟩ 0 3)).toList == (lowB (ByteArray.extract ⟨all.toArray⟩ (3 * k) (3 * k + 3))).toList) = false := (nameP_is all l k).trans hP
     have HP := Aside0.mk hP
     clear hP
     go_wp2_with fail
     go_region_held3 (fun W => W.cell? ⟨g, 0, none⟩ = some (.string ⟨l.toArray⟩) ∧ W.frozen? ⟨g, 0, none⟩ = false ∧ Aside0 (KeepR w g 49 l W)) (first | exact keepR_drew HK | exact keepR_below (by assumption) rfl (by assumption)) (first | (go_at_call 26; refine (lower_any _ _ ?hs).mono ?_; (case hs => (simp [ba_size, ba_extract]; omega)); rintro e w1 ⟨rfl, hb⟩))
     go_wp2_with fail
     have hH : Aside0 (KeepR w g 49 l _) := (by assumption : _ ∧ _ ∧ Aside0 (KeepR w g 49 l _)).2.2
     go_roundw
     case rel =>
      refine ⟨k + 1, by omega, by go_num, ⟨fun j hj => ?_⟩, hH⟩
      by_cases e : j = k
      ·
       rw [e]; exact HP.out
      ·
       exact HJ.out j (by omega)
     case measure => simp [intOf]; omega
   ·
    obtain rfl : k = m := by omega
    go_wp2
    have hf3 : nameL all l = none := nameL_none (m := k) (by rw [HA.out]; omega) HJ.out
    exact HN.out hf3 _ HK.out.1 HK.out.2
 ·
  have hf3 : nameL all l = none := by unfold nameL; rw [if_neg h3]
  go_enter Tryd.func20, Tryd.ntmps20
  go_wp2
  exact HN.out hf3 _ HR.out (only_refl w g)
def monthsL : List UInt8 := [74, 97, 110, 70, 101, 98, 77, 97, 114, 65, 112, 114, 77, 97, 121, 74, 117, 110, 74, 117, 108, 65, 117, 103, 83, 101, 112, 79, 99, 116, 78, 111, 118, 68, 101, 99]
set_option maxHeartbeats 1000000 in
set_option maxRecDepth 100000 in
theorem month_any (g : Nat) (l : List UInt8) (hll : l.length ≤ 9223372036854775807) (w : World) (hr : Rdr w g 49 l) (R : Ending → World → Prop)
  (hok : ∀ j, nameL monthsL l = some j → ∀ w', Rdr w' g 49 (l.drop 3) → w.grownBy w' (some g) → R (.returned (.int .i64 ((j : Int) + 1))) w')
  (hno : nameL monthsL l = none → ∀ w', w.grownBy w' (some g) → R (.panicked faultV) w') :
  Calls Tryd.prog 24 #[.pointer (some ⟨g, 0, none⟩)] w R := by
 have HO := Aside0.mk hok
 have HN := Aside0.mk hno
 have HR := Aside0.mk hr
 clear hok hno hr
 go_enter Tryd.func24, Tryd.ntmps24
 go_wp2_with fail
 refine name_any g monthsL l 12 rfl (by omega) hll w HR.out _ ?_ ?_
 ·
  intro j hj w' hr' hg'
  have H := Aside0.mk (HO.out j hj w' hr' hg')
  have hj0 : (0 : Int) ≤ (j : Int) := by omega
  have hjn : (((j : Int) + 1) == 0) = false := beq_eq_false_iff_ne.2 (by omega)
  clear hj hr' hg'
  go_wp2
  exact H.out
 ·
  intro hj w' hr' hg'
  have H := Aside0.mk (HN.out hj w' hg')
  clear hj hr' hg'
  go_wp2
  exact ⟨rfl, H.out⟩
theorem end_any (g : Nat) (l : List UInt8) (w : World) (hr : Rdr w g 49 l) (R : Ending → World → Prop)
  (hok : l = [] → R (.returned (.tuple #[])) w) (hno : l ≠ [] → R (.panicked faultV) w) :
  Calls Tryd.prog 28 #[.pointer (some ⟨g, 0, none⟩)] w R := by
 have hc := hr.cell
 clear hr
 cases l with
 | nil =>
  have HO := Aside0.mk (hok rfl)
  clear hok hno
  go_enter Tryd.func28, Tryd.ntmps28
  go_wp2
  go_end0
  exact HO.out
 | cons c r =>
  have HN := Aside0.mk (hno (by simp))
  clear hok hno
  go_enter Tryd.func28, Tryd.ntmps28
  go_wp2
  exact ⟨rfl, HN.out⟩
/-- '+hhmm': minutes. -/
def zoneL (l : List UInt8) : Option (Int × List UInt8) :=
 match l with
 | [] => none
 | c :: r =>
  if c = 45 ∨ c = 43 then
   (numberL 2 2 r).bind fun h => (numberL 2 2 h.2).bind fun m =>
    if h.1 > 23 ∨ m.1 > 59 then none else some ((if c = 45 then -1 else 1) * (60 * h.1 + m.1), m.2)
  else none
theorem pre1 (c d : UInt8) (r : List UInt8) : [d].isPrefixOf (c :: r) = decide (d = c) := by simp [List.isPrefixOf]; exact Bool.beq_eq_decide_eq d c
theorem number22 (g : Nat) (l : List UInt8) (w : World) (hr : Rdr w g 49 l) (R : Ending → World → Prop)
  (hok : ∀ x l', numberL 2 2 l = some (x, l') → ∀ w', Rdr w' g 49 l' → w.grownBy w' (some g) → R (.returned (.int .i64 x)) w')
  (hno : numberL 2 2 l = none → ∀ w', w.grownBy w' (some g) → R (.panicked faultV) w') :
  Calls Tryd.prog 23 #[.pointer (some ⟨g, 0, none⟩), .int .i64 2, .int .i64 2] w R :=
 number_any g 2 2 l w hr (by omega) (by omega) R
  (fun h w' h1 h2 => hok _ _ (by unfold numberL; rw [if_pos h]) w' h1 h2) (fun h w' h2 => hno (by unfold numberL; rw [if_neg h]) w' h2)
theorem number11 (g : Nat) (l : List UInt8) (w : World) (hr : Rdr w g 49 l) (R : Ending → World → Prop)
  (hok : ∀ x l', numberL 1 1 l = some (x, l') → ∀ w', Rdr w' g 49 l' → w.grownBy w' (some g) → R (.returned (.int .i64 x)) w')
  (hno : numberL 1 1 l = none → ∀ w', w.grownBy w' (some g) → R (.panicked faultV) w') :
  Calls Tryd.prog 23 #[.pointer (some ⟨g, 0, none⟩), .int .i64 1, .int .i64 1] w R :=
 number_any g 1 1 l w hr (by omega) (by omega) R
  (fun h w' h1 h2 => hok _ _ (by unfold numberL; rw [if_pos h]) w' h1 h2) (fun h w' h2 => hno (by unfold numberL; rw [if_neg h]) w' h2)
theorem number12 (g : Nat) (l : List UInt8) (w : World) (hr : Rdr w g 49 l) (R : Ending → World → Prop)
  (hok : ∀ x l', numberL 1 2 l = some (x, l') → ∀ w', Rdr w' g 49 l' → w.grownBy w' (some g) → R (.returned (.int .i64 x)) w')
  (hno : numberL 1 2 l = none → ∀ w', w.grownBy w' (some g) → R (.panicked faultV) w') :
  Calls Tryd.prog 23 #[.pointer (some ⟨g, 0, none⟩), .int .i64 1, .int .i64 2] w R :=
 number_any g 1 2 l w hr (by omega) (by omega) R
  (fun h w' h1 h2 => hok _ _ (by unfold numberL; rw [if_pos h]) w' h1 h2) (fun h w' h2 => hno (by unfold numberL; rw [if_neg h]) w' h2)
theorem number44 (g : Nat) (l : List UInt8) (w : World) (hr : Rdr w g 49 l) (R : Ending → World → Prop)
  (hok : ∀ x l', numberL 4 4 l = some (x, l') → ∀ w', Rdr w' g 49 l' → w.grownBy w' (some g) → R (.returned (.int .i64 x)) w')
  (hno : numberL 4 4 l = none → ∀ w', w.grownBy w' (some g) → R (.panicked faultV) w') :
  Calls Tryd.prog 23 #[.pointer (some ⟨g, 0, none⟩), .int .i64 4, .int .i64 4] w R :=
 number_any g 4 4 l w hr (by omega) (by omega) R
  (fun h w' h1 h2 => hok _ _ (by unfold numberL; rw [if_pos h]) w' h1 h2) (fun h w' h2 => hno (by unfold numberL; rw [if_neg h]) w' h2)
theorem number_bd {least most : Nat} {l : List UInt8} {x : Int} {l' : List UInt8} (h : numberL least most l = some (x, l')) (hm : most ≤ 9 := by omega) : 0 ≤ x ∧ x < 1000000000 := by
 obtain ⟨_, rfl, _⟩ := numberL_some h
 have hv := valL_bd (digs most l) (fun d hd => List.all_eq_true.1 List.all_takeWhile d hd)
 have hp : (10 : Int) ^ (digs most l).length ≤ 10 ^ 9 := by
  have h1 : (digs most l).length ≤ 9 := by have := (digs_le most l).1; omega
  exact_mod_cast Nat.pow_le_pow_right (by omega) h1
 exact ⟨hv.1, by have := hv.2; omega⟩
set_option maxHeartbeats 1000000 in
set_option maxRecDepth 100000 in
theorem zone_any (g : Nat) (l : List UInt8) (w : World) (hr : Rdr w g 49 l) (R : Ending → World → Prop)
  (hok : ∀ z l', zoneL l = some (z, l') → ∀ w', Rdr w' g 49 l' → w.grownBy w' (some g) → R (.returned (.int .i64 z)) w')
  (hno : zoneL l = none → ∀ w', w.grownBy w' (some g) → R (.panicked faultV) w') :
  Calls Tryd.prog 27 #[.pointer (some ⟨g, 0, none⟩)] w R := by
 have HO := Aside0.mk hok
 have HN := Aside0.mk hno
 have hc := hr.cell
 have hf := hr.frozen
 have HR := Aside0.mk hr
 clear hok hno hr
 go_enter Tryd.func27, Tryd.ntmps27
 go_wp2_with fail
 cases l with
 | nil =>
  refine (strings_HasPrefix.calls _ _ false _ (hasPrefix_is [] [45])).mono ?_
  rintro e w1 ⟨rfl, ⟨⟨n1, rfl⟩⟩⟩
  go_wp2_with fail
  refine (strings_HasPrefix.calls _ _ false _ (hasPrefix_is [] [43])).mono ?_
  rintro e w1 ⟨rfl, ⟨⟨n2, rfl⟩⟩⟩
  have H := Aside0.mk (HN.out rfl _ (only_drewN (only_refl w g) (n1 + n2)))
  clear HO HN
  go_wp2
  exact ⟨rfl, H.out⟩
 | cons c r =>
  have hex : ByteArray.extract ⟨(c :: r).toArray⟩ 1 (r.length + 1) = ⟨r.toArray⟩ := ba_drop (c :: r) 1
  by_cases h45 : c = 45
  ·
   have hz : zoneL (c :: r) = (numberL 2 2 r).bind fun h => (numberL 2 2 h.2).bind fun m => if h.1 > 23 ∨ m.1 > 59 then none else some (-1 * (60 * h.1 + m.1), m.2) := by
    simp only [zoneL]; rw [if_pos (.inl h45)]; simp only [if_pos h45]
   have HZ := Aside0.mk hz
   have HX := Aside0.mk hex
   refine (strings_HasPrefix.calls _ _ true _ (by rw [hasPrefix_is, pre1]; simp [h45])).mono ?_
   rintro e w1 ⟨rfl, ⟨⟨n1, rfl⟩⟩⟩
   clear hz hex h45
   go_wp2_with fail
   rw [HX.out]
   have hr1 := (HR.out.drewN n1).set r
   have hg1 := only_setCell (only_drewN (only_refl w g) n1) (p := ⟨g, 0, none⟩) (.inl rfl) (.string ⟨r.toArray⟩)
   obtain ⟨W1, hW1⟩ : ∃ W1, W1 = (w.drewN n1).setCell ⟨g, 0, none⟩ (.string ⟨r.toArray⟩) := ⟨_, rfl⟩
   rw [← hW1] at hr1 hg1 ⊢
   clear hW1
   have HG1 := Aside0.mk hg1
   clear hg1 hc hf
   refine number22 g r W1 hr1 _ ?_ ?_
   ·
    intro h l2 hn2 w2 hr2 hg2
    have HG2 := Aside0.mk (only_trans HG1.out hg2)
    have HB2 := Aside0.mk hn2
    clear hg2 hr1 hn2
    have HR2 := Aside0.mk hr2
    clear hr2
    go_wp2_with fail
    refine number22 g l2 w2 HR2.out _ ?_ ?_
    ·
     intro m l3 hn3 w3 hr3 hg3
     have HG3 := Aside0.mk (only_trans HG2.out hg3)
     have HB3 := Aside0.mk hn3
     have HR3 := Aside0.mk hr3
     have hb1 := number_bd HB2.out
     have hb2 := number_bd HB3.out
     clear hg3 hr3 hn3
     by_cases h23 : h > 23
     ·
      have H := Aside0.mk (HN.out (by rw [HZ.out, HB2.out]; simp only [Option.bind_some, HB3.out]; rw [if_pos (.inl h23)]) w3 HG3.out)
      clear HO HN
      go_wp2
      exact ⟨rfl, H.out⟩
     ·
      by_cases h59 : m > 59
      ·
       have H := Aside0.mk (HN.out (by rw [HZ.out, HB2.out]; simp only [Option.bind_some, HB3.out]; rw [if_pos (.inr h59)]) w3 HG3.out)
       clear HO HN
       go_wp2
       exact ⟨rfl, H.out⟩
      ·
       have H := Aside0.mk (HO.out (-1 * (60 * h + m)) l3 (by rw [HZ.out, HB2.out]; simp only [Option.bind_some, HB3.out]; rw [if_neg (by omega)]) w3 HR3.out HG3.out)
       clear HO HN
       go_wp2
       have H2 := H.out
       first | exact H2 | (simp only [Int.neg_mul, Int.one_mul] at H2 ⊢; exact H2) | (simp at H2 ⊢; exact H2)
    ·
     intro hn3 w3 hg3
     have H := Aside0.mk (HN.out (by rw [HZ.out, HB2.out]; simp only [Option.bind_some, hn3]; rfl) w3 (only_trans HG2.out hg3))
     clear HO HN hn3 hg3
     go_wp2
     exact ⟨rfl, H.out⟩
   ·
    intro hn2 w2 hg2
    have H := Aside0.mk (HN.out (by rw [HZ.out, hn2]; rfl) w2 (only_trans HG1.out hg2))
    clear HO HN hn2 hg2
    go_wp2
    exact ⟨rfl, H.out⟩
  ·
   by_cases h43 : c = 43
   ·
    have hz : zoneL (c :: r) = (numberL 2 2 r).bind fun h => (numberL 2 2 h.2).bind fun m => if h.1 > 23 ∨ m.1 > 59 then none else some (1 * (60 * h.1 + m.1), m.2) := by
     simp only [zoneL]; rw [if_pos (.inr h43)]; simp only [if_neg h45]
    have HZ := Aside0.mk hz
    have HX := Aside0.mk hex
    refine (strings_HasPrefix.calls _ _ false _ (by rw [hasPrefix_is, pre1]; simp [Ne.symm h45])).mono ?_
    rintro e w1 ⟨rfl, ⟨⟨n1, rfl⟩⟩⟩
    go_wp2_with fail
    refine (strings_HasPrefix.calls _ _ true _ (by rw [hasPrefix_is, pre1]; simp [h43])).mono ?_
    rintro e w1 ⟨rfl, ⟨⟨n2, rfl⟩⟩⟩
    clear hz hex h45 h43
    go_wp2_with fail
    rw [HX.out]
    have hr1 := (HR.out.drewN (n1 + n2)).set r
    have hg1 := only_setCell (only_drewN (only_refl w g) (n1 + n2)) (p := ⟨g, 0, none⟩) (.inl rfl) (.string ⟨r.toArray⟩)
    obtain ⟨W1, hW1⟩ : ∃ W1, W1 = (w.drewN (n1 + n2)).setCell ⟨g, 0, none⟩ (.string ⟨r.toArray⟩) := ⟨_, rfl⟩
    rw [← hW1] at hr1 hg1 ⊢
    clear hW1
    have HG1 := Aside0.mk hg1
    clear hg1 hc hf
    refine number22 g r W1 hr1 _ ?_ ?_
    ·
     intro h l2 hn2 w2 hr2 hg2
     have HG2 := Aside0.mk (only_trans HG1.out hg2)
     have HB2 := Aside0.mk hn2
     clear hg2 hr1 hn2
     have HR2 := Aside0.mk hr2
     clear hr2
     go_wp2_with fail
     refine number22 g l2 w2 HR2.out _ ?_ ?_
     ·
      intro m l3 hn3 w3 hr3 hg3
      have HG3 := Aside0.mk (only_trans HG2.out hg3)
      have HB3 := Aside0.mk hn3
      have HR3 := Aside0.mk hr3
      have hb1 := number_bd HB2.out
      have hb2 := number_bd HB3.out
      clear hg3 hr3 hn3
      by_cases h23 : h > 23
      ·
       have H := Aside0.mk (HN.out (by rw [HZ.out, HB2.out]; simp only [Option.bind_some, HB3.out]; rw [if_pos (.inl h23)]) w3 HG3.out)
       clear HO HN
       go_wp2
       exact ⟨rfl, H.out⟩
      ·
       by_cases h59 : m > 59
       ·
        have H := Aside0.mk (HN.out (by rw [HZ.out, HB2.out]; simp only [Option.bind_some, HB3.out]; rw [if_pos (.inr h59)]) w3 HG3.out)
        clear HO HN
        go_wp2
        exact ⟨rfl, H.out⟩
       ·
        have H := Aside0.mk (HO.out (1 * (60 * h + m)) l3 (by rw [HZ.out, HB2.out]; simp only [Option.bind_some, HB3.out]; rw [if_neg (by omega)]) w3 HR3.out HG3.out)
        clear HO HN
        go_wp2
        have H2 := H.out
        first | exact H2 | (simp only [Int.neg_mul, Int.one_mul] at H2 ⊢; exact H2) | (simp at H2 ⊢; exact H2)
     ·
      intro hn3 w3 hg3
      have H := Aside0.mk (HN.out (by rw [HZ.out, HB2.out]; simp only [Option.bind_some, hn3]; rfl) w3 (only_trans HG2.out hg3))
      clear HO HN hn3 hg3
      go_wp2
      exact ⟨rfl, H.out⟩
    ·
     intro hn2 w2 hg2
     have H := Aside0.mk (HN.out (by rw [HZ.out, hn2]; rfl) w2 (only_trans HG1.out hg2))
     clear HO HN hn2 hg2
     go_wp2
     exact ⟨rfl, H.out⟩
   ·
    have hz : zoneL (c :: r) = none := by
     simp only [zoneL]; rw [if_neg (by simp [h45, h43])]
    refine (strings_HasPrefix.calls _ _ false _ (by rw [hasPrefix_is, pre1]; simp [Ne.symm h45])).mono ?_
    rintro e w1 ⟨rfl, ⟨⟨n1, rfl⟩⟩⟩
    go_wp2_with fail
    refine (strings_HasPrefix.calls _ _ false _ (by rw [hasPrefix_is, pre1]; simp [Ne.symm h43])).mono ?_
    rintro e w1 ⟨rfl, ⟨⟨n2, rfl⟩⟩⟩
    have H := Aside0.mk (HN.out hz _ (only_drewN (only_refl w g) (n1 + n2)))
    clear HO HN hz hex h45 h43
    go_wp2
    exact ⟨rfl, H.out⟩
theorem step_ok {α β : Type} {o : Option α} {x : α} {F : α → Option β} {M : Option β} (h : M = o.bind F) (hm : o = some x) : M = F x := by rw [h, hm]; rfl
theorem step_no {α β : Type} {o : Option α} {F : α → Option β} {M : Option β} (h : M = o.bind F) (hm : o = none) : M = none := by rw [h, hm]; rfl
/-- A reader, two new dates: the result (zero), and the one under way. -/
structure CS (w0 w : World) (g : Nat) (l : List UInt8) (vs : List Int) : Prop where
 rd : Rdr w g 49 l
 only : w0.grownBy w (some g)
 lt : g < w0.heap.size
 res : w.heap[w0.heap.size]? = some (.cells #[.int .i64 0, .int .i64 0, .int .i64 0, .int .i64 0, .int .i64 0, .int .i64 0, .int .i64 0] 24 (0, 0))
 now : w.heap[w0.heap.size + 1]? = some (.cells (vs.map (Value.int .i64)).toArray 24 (0, 0))
 len : vs.length = 7
theorem CS.start {w : World} {g : Nat} {l : List UInt8} (h : Rdr w g 49 l) : CS w ((w.alloc (.cells #[.int .i64 0, .int .i64 0, .int .i64 0, .int .i64 0, .int .i64 0, .int .i64 0, .int .i64 0] 24)).alloc (.cells #[.int .i64 0, .int .i64 0, .int .i64 0, .int .i64 0, .int .i64 0, .int .i64 0, .int .i64 0] 24)) g l [0, 0, 0, 0, 0, 0, 0] :=
 ⟨(h.alloc _).alloc _, only_alloc (only_alloc (only_refl w g) _) _, h.lt, (Below.heap_alloc _ _ _ (by simp)).trans (heap_alloc_new w _), by
  have := heap_alloc_new (w.alloc (.cells #[.int .i64 0, .int .i64 0, .int .i64 0, .int .i64 0, .int .i64 0, .int .i64 0, .int .i64 0] 24)) (.cells #[.int .i64 0, .int .i64 0, .int .i64 0, .int .i64 0, .int .i64 0, .int .i64 0, .int .i64 0] 24)
  simpa using this, rfl⟩
theorem CS.call {w0 w w' : World} {g : Nat} {l l' : List UInt8} {vs : List Int} (h : CS w0 w g l vs) (hg : w.grownBy w' (some g)) (hr : Rdr w' g 49 l') : CS w0 w' g l' vs := by
 have hs := h.only.size
 have h1 : w0.heap.size + 1 < w.heap.size := (Array.getElem?_eq_some_iff.1 h.now).1
 have := h.lt
 exact ⟨hr, only_trans h.only hg, h.lt, (hg.block _ (by omega) (by simp; omega)).trans h.res, (hg.block _ (by omega) (by simp; omega)).trans h.now, h.len⟩
theorem CS.drewN {w0 w : World} {g : Nat} {l : List UInt8} {vs : List Int} (h : CS w0 w g l vs) (n : Nat) : CS w0 (w.drewN n) g l vs := ⟨h.rd, only_drewN h.only n, h.lt, h.res, h.now, h.len⟩
theorem CS.set {w0 w : World} {g : Nat} {l : List UInt8} {vs : List Int} (h : CS w0 w g l vs) (i : Nat) (x : Int) : CS w0 (w.setCell ⟨w0.heap.size + 1, i, none⟩ (.int .i64 x)) g l (vs.set i x) := by
 have hl := h.lt
 have hn := h.now
 refine ⟨h.rd.far (by simp; omega) _, only_setCell h.only (.inr (by simp)) _, h.lt, (Below.heap_setCell _ _ _ _ (by simp)).trans h.res, ?_, by simp [h.len]⟩
 simp [World.setCell, Array.getElem?_modify, hn, List.map_set]
theorem CS.cell {w0 w : World} {g : Nat} {l : List UInt8} {vs : List Int} (h : CS w0 w g l vs) (i : Nat) (hi : i < 7 := by omega) : w.cell? ⟨w0.heap.size + 1, i, none⟩ = some (.int .i64 (vs.getD i 0)) ∧ w.frozen? ⟨w0.heap.size + 1, i, none⟩ = false := by
 have hn := h.now
 have hl := h.len
 refine ⟨?_, by simp [World.frozen?, hn]⟩
 have hi' : i < vs.length := by omega
 simp [World.cell?, hn, List.getD_eq_getElem?_getD, hi']
theorem CS.rcell {w0 w : World} {g : Nat} {l : List UInt8} {vs : List Int} (h : CS w0 w g l vs) (i : Nat) (hi : i < 7 := by omega) : w.cell? ⟨w0.heap.size, i, none⟩ = some (.int .i64 0) ∧ w.frozen? ⟨w0.heap.size, i, none⟩ = false := by
 have hn := h.res
 refine ⟨?_, by simp [World.frozen?, hn]⟩
 simp [World.cell?, hn]
 match i, hi with
 | 0, _ => rfl
 | 1, _ => rfl
 | 2, _ => rfl
 | 3, _ => rfl
 | 4, _ => rfl
 | 5, _ => rfl
 | 6, _ => rfl
theorem only_seven {a w : World} {g b : Nat} (h : a.grownBy w (some g)) (hb : a.heap.size ≤ b) (v0 v1 v2 v3 v4 v5 v6 : Value) :
  a.grownBy (((((((w.setCell ⟨b, 0, none⟩ v0).setCell ⟨b, 1, none⟩ v1).setCell ⟨b, 2, none⟩ v2).setCell ⟨b, 3, none⟩ v3).setCell ⟨b, 4, none⟩ v4).setCell ⟨b, 5, none⟩ v5).setCell ⟨b, 6, none⟩ v6) (some g) :=
 only_setCell (only_setCell (only_setCell (only_setCell (only_setCell (only_setCell (only_setCell h (.inr hb) _) (.inr hb) _) (.inr hb) _) (.inr hb) _) (.inr hb) _) (.inr hb) _) (.inr hb) _
def monthM (l : List UInt8) : Option (Int × List UInt8) := (nameL monthsL l).map fun j => ((j : Int) + 1, l.drop 3)
theorem month_m (g : Nat) (l : List UInt8) (hll : l.length ≤ 9223372036854775807) (w : World) (hr : Rdr w g 49 l) (R : Ending → World → Prop)
  (hok : ∀ x l', monthM l = some (x, l') → ∀ w', Rdr w' g 49 l' → w.grownBy w' (some g) → R (.returned (.int .i64 x)) w')
  (hno : monthM l = none → ∀ w', w.grownBy w' (some g) → R (.panicked faultV) w') :
  Calls Tryd.prog 24 #[.pointer (some ⟨g, 0, none⟩)] w R :=
 month_any g l hll w hr R (fun j hj => hok _ _ (by unfold monthM; rw [hj]; rfl)) (fun hj => hno (by unfold monthM; rw [hj]; rfl))
theorem must_len {t l l' : List UInt8} (h : mustL t l = some l') : l'.length ≤ l.length := by
 unfold mustL at h; split at h
 ·
  injection h with h; rw [← h, List.length_drop]; omega
 ·
  cases h
theorem number_len {a b : Nat} {l l' : List UInt8} {x : Int} (h : numberL a b l = some (x, l')) : l'.length ≤ l.length := by
 obtain ⟨_, _, rfl⟩ := numberL_some h; rw [List.length_drop]; omega
theorem month_len {l l' : List UInt8} {x : Int} (h : monthM l = some (x, l')) : l'.length ≤ l.length := by
 unfold monthM at h
 cases hn : nameL monthsL l with
 | none => rw [hn] at h; cases h
 | some j => rw [hn] at h; injection h with h; injection h with _ h; rw [← h, List.length_drop]; omega
theorem zone_len {l l' : List UInt8} {x : Int} (h : zoneL l = some (x, l')) : l'.length ≤ l.length := by
 unfold zoneL at h
 cases l with
 | nil => cases h
 | cons c r =>
  simp only at h
  split at h
  ·
   cases h1 : numberL 2 2 r with
   | none => rw [h1] at h; cases h
   | some p =>
    rw [h1] at h; simp only [Option.bind_some] at h
    cases h2 : numberL 2 2 p.2 with
    | none => rw [h2] at h; cases h
    | some q =>
     rw [h2] at h; simp only [Option.bind_some] at h
     split at h
     ·
      cases h
     ·
      injection h with h; injection h with _ h
      have a1 := number_len (x := p.1) (l' := p.2) h1
      have a2 := number_len (x := q.1) (l' := q.2) h2
      rw [← h]; simp; omega
  ·
   cases h
def internalL (l : List UInt8) : Option (Int × Int × Int × Int × Int × Int × Int) :=
 (if [32].isPrefixOf l then (mustL [32] l).bind fun l1 => numberL 1 1 l1 else numberL 2 2 l).bind fun d =>
 (mustL [45] d.2).bind fun l2 => (monthM l2).bind fun m => (mustL [45] m.2).bind fun l4 => (numberL 4 4 l4).bind fun y => (mustL [32] y.2).bind fun l6 =>
 (numberL 2 2 l6).bind fun h => (mustL [58] h.2).bind fun l8 => (numberL 2 2 l8).bind fun mi => (mustL [58] mi.2).bind fun l10 => (numberL 2 2 l10).bind fun s =>
 (mustL [32] s.2).bind fun l12 => (zoneL l12).bind fun z => some (y.1, m.1, d.1, h.1, mi.1, s.1, z.1)
set_option maxHeartbeats 2000000 in
set_option maxRecDepth 100000 in
theorem internal1_any (g : Nat) (l : List UInt8) (hll : l.length ≤ 9223372036854775807) (w : World) (hr : Rdr w g 49 l) (R : Ending → World → Prop)
  (hok : ∀ a b c d e f z, internalL l = some (a, b, c, d, e, f, z) → ∀ w', w.grownBy w' (some g) → R (.returned (.agg #[.int .i64 a, .int .i64 b, .int .i64 c, .int .i64 d, .int .i64 e, .int .i64 f, .int .i64 z])) w')
  (hno : internalL l = none → ∀ w', w.grownBy w' (some g) → R (.panicked faultV) w') :
  Calls Tryd.prog 40 #[.pointer (some ⟨g, 0, none⟩)] w R := by
 have HO := Aside0.mk hok
 have HN := Aside0.mk hno
 have hcs := CS.start hr
 have hc := hcs.rd.cell
 have HC := Aside0.mk hcs
 clear hok hno hr hcs
 go_enter Tryd.func40, Tryd.ntmps40
 go_wp2_with fail
 cases hp : [32].isPrefixOf l with
 | true =>
  have HT0 := Aside0.mk (show internalL l = (mustL [32] l).bind fun l1 => (numberL 1 1 l1).bind _ by unfold internalL; rw [if_pos hp, Option.bind_assoc])
  refine (strings_HasPrefix.calls _ _ true _ (by rw [hasPrefix_is, hp])).mono ?_
  rintro e w1 ⟨rfl, ⟨⟨n1, rfl⟩⟩⟩
  have HC0 := Aside0.mk (HC.out.drewN n1)
  have hl0 := hll
  clear hp HC hc
  go_wp2_with fail
  refine must_any g [32] l _ HC0.out.rd _ ?_ (fun hm w2 hg2 => ⟨rfl, HN.out (step_no HT0.out hm) w2 (only_trans HC0.out.only hg2)⟩)
  intro L1 hm w2 hr2 hg2
  have HT1 := Aside0.mk (step_ok HT0.out hm)
  have HC1 := Aside0.mk (HC0.out.call hg2 hr2)
  have hl1 := Nat.le_trans (must_len hm) hl0
  clear hm hr2 hg2 HT0 HC0 hl0
  go_wp2_with fail
  refine number11 g L1 _ HC1.out.rd _ ?_ (fun hm w2 hg2 => ⟨rfl, HN.out (step_no HT1.out hm) w2 (only_trans HC1.out.only hg2)⟩)
  intro x2 L2 hm w2 hr2 hg2
  have HT2 := Aside0.mk (step_ok HT1.out hm)
  have HD2 := Aside0.mk (HC1.out.call hg2 hr2)
  have hl2 := Nat.le_trans (number_len hm) hl1
  obtain ⟨hd1, hd2⟩ := HD2.out.cell 2
  have HC2 := Aside0.mk (HD2.out.set 2 x2)
  clear hm hr2 hg2 HT1 HC1 HD2 hl1
  go_wp2_with fail
  clear hd1 hd2
  refine must_any g [45] L2 _ HC2.out.rd _ ?_ (fun hm w2 hg2 => ⟨rfl, HN.out (step_no HT2.out hm) w2 (only_trans HC2.out.only hg2)⟩)
  intro L3 hm w2 hr2 hg2
  have HT3 := Aside0.mk (step_ok HT2.out hm)
  have HC3 := Aside0.mk (HC2.out.call hg2 hr2)
  have hl3 := Nat.le_trans (must_len hm) hl2
  clear hm hr2 hg2 HT2 HC2 hl2
  go_wp2_with fail
  refine month_m g L3 hl3 _ HC3.out.rd _ ?_ (fun hm w2 hg2 => ⟨rfl, HN.out (step_no HT3.out hm) w2 (only_trans HC3.out.only hg2)⟩)
  intro x4 L4 hm w2 hr2 hg2
  have HT4 := Aside0.mk (step_ok HT3.out hm)
  have HD4 := Aside0.mk (HC3.out.call hg2 hr2)
  have hl4 := Nat.le_trans (month_len hm) hl3
  obtain ⟨hd1, hd2⟩ := HD4.out.cell 1
  have HC4 := Aside0.mk (HD4.out.set 1 x4)
  clear hm hr2 hg2 HT3 HC3 HD4 hl3
  go_wp2_with fail
  clear hd1 hd2
  refine must_any g [45] L4 _ HC4.out.rd _ ?_ (fun hm w2 hg2 => ⟨rfl, HN.out (step_no HT4.out hm) w2 (only_trans HC4.out.only hg2)⟩)
  intro L5 hm w2 hr2 hg2
  have HT5 := Aside0.mk (step_ok HT4.out hm)
  have HC5 := Aside0.mk (HC4.out.call hg2 hr2)
  have hl5 := Nat.le_trans (must_len hm) hl4
  clear hm hr2 hg2 HT4 HC4 hl4
  go_wp2_with fail
  refine number44 g L5 _ HC5.out.rd _ ?_ (fun hm w2 hg2 => ⟨rfl, HN.out (step_no HT5.out hm) w2 (only_trans HC5.out.only hg2)⟩)
  intro x6 L6 hm w2 hr2 hg2
  have HT6 := Aside0.mk (step_ok HT5.out hm)
  have HD6 := Aside0.mk (HC5.out.call hg2 hr2)
  have hl6 := Nat.le_trans (number_len hm) hl5
  obtain ⟨hd1, hd2⟩ := HD6.out.cell 0
  have HC6 := Aside0.mk (HD6.out.set 0 x6)
  clear hm hr2 hg2 HT5 HC5 HD6 hl5
  go_wp2_with fail
  clear hd1 hd2
  refine must_any g [32] L6 _ HC6.out.rd _ ?_ (fun hm w2 hg2 => ⟨rfl, HN.out (step_no HT6.out hm) w2 (only_trans HC6.out.only hg2)⟩)
  intro L7 hm w2 hr2 hg2
  have HT7 := Aside0.mk (step_ok HT6.out hm)
  have HC7 := Aside0.mk (HC6.out.call hg2 hr2)
  have hl7 := Nat.le_trans (must_len hm) hl6
  clear hm hr2 hg2 HT6 HC6 hl6
  go_wp2_with fail
  refine number22 g L7 _ HC7.out.rd _ ?_ (fun hm w2 hg2 => ⟨rfl, HN.out (step_no HT7.out hm) w2 (only_trans HC7.out.only hg2)⟩)
  intro x8 L8 hm w2 hr2 hg2
  have HT8 := Aside0.mk (step_ok HT7.out hm)
  have HD8 := Aside0.mk (HC7.out.call hg2 hr2)
  have hl8 := Nat.le_trans (number_len hm) hl7
  obtain ⟨hd1, hd2⟩ := HD8.out.cell 3
  have HC8 := Aside0.mk (HD8.out.set 3 x8)
  clear hm hr2 hg2 HT7 HC7 HD8 hl7
  go_wp2_with fail
  clear hd1 hd2
  refine must_any g [58] L8 _ HC8.out.rd _ ?_ (fun hm w2 hg2 => ⟨rfl, HN.out (step_no HT8.out hm) w2 (only_trans HC8.out.only hg2)⟩)
  intro L9 hm w2 hr2 hg2
  have HT9 := Aside0.mk (step_ok HT8.out hm)
  have HC9 := Aside0.mk (HC8.out.call hg2 hr2)
  have hl9 := Nat.le_trans (must_len hm) hl8
  clear hm hr2 hg2 HT8 HC8 hl8
  go_wp2_with fail
  refine number22 g L9 _ HC9.out.rd _ ?_ (fun hm w2 hg2 => ⟨rfl, HN.out (step_no HT9.out hm) w2 (only_trans HC9.out.only hg2)⟩)
  intro x10 L10 hm w2 hr2 hg2
  have HT10 := Aside0.mk (step_ok HT9.out hm)
  have HD10 := Aside0.mk (HC9.out.call hg2 hr2)
  have hl10 := Nat.le_trans (number_len hm) hl9
  obtain ⟨hd1, hd2⟩ := HD10.out.cell 4
  have HC10 := Aside0.mk (HD10.out.set 4 x10)
  clear hm hr2 hg2 HT9 HC9 HD10 hl9
  go_wp2_with fail
  clear hd1 hd2
  refine must_any g [58] L10 _ HC10.out.rd _ ?_ (fun hm w2 hg2 => ⟨rfl, HN.out (step_no HT10.out hm) w2 (only_trans HC10.out.only hg2)⟩)
  intro L11 hm w2 hr2 hg2
  have HT11 := Aside0.mk (step_ok HT10.out hm)
  have HC11 := Aside0.mk (HC10.out.call hg2 hr2)
  have hl11 := Nat.le_trans (must_len hm) hl10
  clear hm hr2 hg2 HT10 HC10 hl10
  go_wp2_with fail
  refine number22 g L11 _ HC11.out.rd _ ?_ (fun hm w2 hg2 => ⟨rfl, HN.out (step_no HT11.out hm) w2 (only_trans HC11.out.only hg2)⟩)
  intro x12 L12 hm w2 hr2 hg2
  have HT12 := Aside0.mk (step_ok HT11.out hm)
  have HD12 := Aside0.mk (HC11.out.call hg2 hr2)
  have hl12 := Nat.le_trans (number_len hm) hl11
  obtain ⟨hd1, hd2⟩ := HD12.out.cell 5
  have HC12 := Aside0.mk (HD12.out.set 5 x12)
  clear hm hr2 hg2 HT11 HC11 HD12 hl11
  go_wp2_with fail
  clear hd1 hd2
  refine must_any g [32] L12 _ HC12.out.rd _ ?_ (fun hm w2 hg2 => ⟨rfl, HN.out (step_no HT12.out hm) w2 (only_trans HC12.out.only hg2)⟩)
  intro L13 hm w2 hr2 hg2
  have HT13 := Aside0.mk (step_ok HT12.out hm)
  have HC13 := Aside0.mk (HC12.out.call hg2 hr2)
  have hl13 := Nat.le_trans (must_len hm) hl12
  clear hm hr2 hg2 HT12 HC12 hl12
  go_wp2_with fail
  refine zone_any g L13 _ HC13.out.rd _ ?_ (fun hm w2 hg2 => ⟨rfl, HN.out (step_no HT13.out hm) w2 (only_trans HC13.out.only hg2)⟩)
  intro x14 L14 hm w2 hr2 hg2
  have HT14 := Aside0.mk (step_ok HT13.out hm)
  have HD14 := Aside0.mk (HC13.out.call hg2 hr2)
  have hl14 := Nat.le_trans (zone_len hm) hl13
  obtain ⟨hd1, hd2⟩ := HD14.out.cell 6
  have HC14 := Aside0.mk (HD14.out.set 6 x14)
  clear hm hr2 hg2 HT13 HC13 hl13 hd1 hd2
  have HF : CS w w2 g L14 [x6, x4, x2, x8, x10, x12, 0] := HD14.out
  have hfin := Aside0.mk (HO.out _ _ _ _ _ _ _ HT14.out)
  obtain ⟨c0, f0⟩ := HF.cell 0
  obtain ⟨c1, f1⟩ := HF.cell 1
  obtain ⟨c2, f2⟩ := HF.cell 2
  obtain ⟨c3, f3⟩ := HF.cell 3
  obtain ⟨c4, f4⟩ := HF.cell 4
  obtain ⟨c5, f5⟩ := HF.cell 5
  obtain ⟨c6, f6⟩ := HF.cell 6
  obtain ⟨r0, g0⟩ := HF.rcell 0
  obtain ⟨r1, g1⟩ := HF.rcell 1
  obtain ⟨r2, g2⟩ := HF.rcell 2
  obtain ⟨r3, g3⟩ := HF.rcell 3
  obtain ⟨r4, g4⟩ := HF.rcell 4
  obtain ⟨r5, g5⟩ := HF.rcell 5
  obtain ⟨r6, g6⟩ := HF.rcell 6
  simp only [List.getD_cons_zero, List.getD_cons_succ] at c0 c1 c2 c3 c4 c5 c6
  have HFo := Aside0.mk HF.only
  clear HF HD14 HC14 HT14 HO HN
  go_wp2
  refine bodyPost_ret (v := .agg #[.int .i64 x6, .int .i64 x4, .int .i64 x2, .int .i64 x8, .int .i64 x10, .int .i64 x12, .int .i64 x14]) (by simp [results, Tryd.results40, go_sem, r0, r1, r2, r3, r4, r5, r6]) rfl (hfin.out _ ?_)
  exact only_seven (only_setCell HFo.out (.inr (Nat.le_succ _)) _) (Nat.le_refl _) _ _ _ _ _ _ _
 | false =>
  have HT0 := Aside0.mk (show internalL l = (numberL 2 2 l).bind _ by unfold internalL; rw [if_neg (by rw [hp]; simp)])
  refine (strings_HasPrefix.calls _ _ false _ (by rw [hasPrefix_is, hp])).mono ?_
  rintro e w1 ⟨rfl, ⟨⟨n1, rfl⟩⟩⟩
  have HC0 := Aside0.mk (HC.out.drewN n1)
  have hl0 := hll
  clear hp HC hc
  go_wp2_with fail
  refine number22 g l _ HC0.out.rd _ ?_ (fun hm w2 hg2 => ⟨rfl, HN.out (step_no HT0.out hm) w2 (only_trans HC0.out.only hg2)⟩)
  intro x1 L1 hm w2 hr2 hg2
  have HT1 := Aside0.mk (step_ok HT0.out hm)
  have HD1 := Aside0.mk (HC0.out.call hg2 hr2)
  have hl1 := Nat.le_trans (number_len hm) hl0
  obtain ⟨hd1, hd2⟩ := HD1.out.cell 2
  have HC1 := Aside0.mk (HD1.out.set 2 x1)
  clear hm hr2 hg2 HT0 HC0 HD1 hl0
  go_wp2_with fail
  clear hd1 hd2
  refine must_any g [45] L1 _ HC1.out.rd _ ?_ (fun hm w2 hg2 => ⟨rfl, HN.out (step_no HT1.out hm) w2 (only_trans HC1.out.only hg2)⟩)
  intro L2 hm w2 hr2 hg2
  have HT2 := Aside0.mk (step_ok HT1.out hm)
  have HC2 := Aside0.mk (HC1.out.call hg2 hr2)
  have hl2 := Nat.le_trans (must_len hm) hl1
  clear hm hr2 hg2 HT1 HC1 hl1
  go_wp2_with fail
  refine month_m g L2 hl2 _ HC2.out.rd _ ?_ (fun hm w2 hg2 => ⟨rfl, HN.out (step_no HT2.out hm) w2 (only_trans HC2.out.only hg2)⟩)
  intro x3 L3 hm w2 hr2 hg2
  have HT3 := Aside0.mk (step_ok HT2.out hm)
  have HD3 := Aside0.mk (HC2.out.call hg2 hr2)
  have hl3 := Nat.le_trans (month_len hm) hl2
  obtain ⟨hd1, hd2⟩ := HD3.out.cell 1
  have HC3 := Aside0.mk (HD3.out.set 1 x3)
  clear hm hr2 hg2 HT2 HC2 HD3 hl2
  go_wp2_with fail
  clear hd1 hd2
  refine must_any g [45] L3 _ HC3.out.rd _ ?_ (fun hm w2 hg2 => ⟨rfl, HN.out (step_no HT3.out hm) w2 (only_trans HC3.out.only hg2)⟩)
  intro L4 hm w2 hr2 hg2
  have HT4 := Aside0.mk (step_ok HT3.out hm)
  have HC4 := Aside0.mk (HC3.out.call hg2 hr2)
  have hl4 := Nat.le_trans (must_len hm) hl3
  clear hm hr2 hg2 HT3 HC3 hl3
  go_wp2_with fail
  refine number44 g L4 _ HC4.out.rd _ ?_ (fun hm w2 hg2 => ⟨rfl, HN.out (step_no HT4.out hm) w2 (only_trans HC4.out.only hg2)⟩)
  intro x5 L5 hm w2 hr2 hg2
  have HT5 := Aside0.mk (step_ok HT4.out hm)
  have HD5 := Aside0.mk (HC4.out.call hg2 hr2)
  have hl5 := Nat.le_trans (number_len hm) hl4
  obtain ⟨hd1, hd2⟩ := HD5.out.cell 0
  have HC5 := Aside0.mk (HD5.out.set 0 x5)
  clear hm hr2 hg2 HT4 HC4 HD5 hl4
  go_wp2_with fail
  clear hd1 hd2
  refine must_any g [32] L5 _ HC5.out.rd _ ?_ (fun hm w2 hg2 => ⟨rfl, HN.out (step_no HT5.out hm) w2 (only_trans HC5.out.only hg2)⟩)
  intro L6 hm w2 hr2 hg2
  have HT6 := Aside0.mk (step_ok HT5.out hm)
  have HC6 := Aside0.mk (HC5.out.call hg2 hr2)
  have hl6 := Nat.le_trans (must_len hm) hl5
  clear hm hr2 hg2 HT5 HC5 hl5
  go_wp2_with fail
  refine number22 g L6 _ HC6.out.rd _ ?_ (fun hm w2 hg2 => ⟨rfl, HN.out (step_no HT6.out hm) w2 (only_trans HC6.out.only hg2)⟩)
  intro x7 L7 hm w2 hr2 hg2
  have HT7 := Aside0.mk (step_ok HT6.out hm)
  have HD7 := Aside0.mk (HC6.out.call hg2 hr2)
  have hl7 := Nat.le_trans (number_len hm) hl6
  obtain ⟨hd1, hd2⟩ := HD7.out.cell 3
  have HC7 := Aside0.mk (HD7.out.set 3 x7)
  clear hm hr2 hg2 HT6 HC6 HD7 hl6
  go_wp2_with fail
  clear hd1 hd2
  refine must_any g [58] L7 _ HC7.out.rd _ ?_ (fun hm w2 hg2 => ⟨rfl, HN.out (step_no HT7.out hm) w2 (only_trans HC7.out.only hg2)⟩)
  intro L8 hm w2 hr2 hg2
  have HT8 := Aside0.mk (step_ok HT7.out hm)
  have HC8 := Aside0.mk (HC7.out.call hg2 hr2)
  have hl8 := Nat.le_trans (must_len hm) hl7
  clear hm hr2 hg2 HT7 HC7 hl7
  go_wp2_with fail
  refine number22 g L8 _ HC8.out.rd _ ?_ (fun hm w2 hg2 => ⟨rfl, HN.out (step_no HT8.out hm) w2 (only_trans HC8.out.only hg2)⟩)
  intro x9 L9 hm w2 hr2 hg2
  have HT9 := Aside0.mk (step_ok HT8.out hm)
  have HD9 := Aside0.mk (HC8.out.call hg2 hr2)
  have hl9 := Nat.le_trans (number_len hm) hl8
  obtain ⟨hd1, hd2⟩ := HD9.out.cell 4
  have HC9 := Aside0.mk (HD9.out.set 4 x9)
  clear hm hr2 hg2 HT8 HC8 HD9 hl8
  go_wp2_with fail
  clear hd1 hd2
  refine must_any g [58] L9 _ HC9.out.rd _ ?_ (fun hm w2 hg2 => ⟨rfl, HN.out (step_no HT9.out hm) w2 (only_trans HC9.out.only hg2)⟩)
  intro L10 hm w2 hr2 hg2
  have HT10 := Aside0.mk (step_ok HT9.out hm)
  have HC10 := Aside0.mk (HC9.out.call hg2 hr2)
  have hl10 := Nat.le_trans (must_len hm) hl9
  clear hm hr2 hg2 HT9 HC9 hl9
  go_wp2_with fail
  refine number22 g L10 _ HC10.out.rd _ ?_ (fun hm w2 hg2 => ⟨rfl, HN.out (step_no HT10.out hm) w2 (only_trans HC10.out.only hg2)⟩)
  intro x11 L11 hm w2 hr2 hg2
  have HT11 := Aside0.mk (step_ok HT10.out hm)
  have HD11 := Aside0.mk (HC10.out.call hg2 hr2)
  have hl11 := Nat.le_trans (number_len hm) hl10
  obtain ⟨hd1, hd2⟩ := HD11.out.cell 5
  have HC11 := Aside0.mk (HD11.out.set 5 x11)
  clear hm hr2 hg2 HT10 HC10 HD11 hl10
  go_wp2_with fail
  clear hd1 hd2
  refine must_any g [32] L11 _ HC11.out.rd _ ?_ (fun hm w2 hg2 => ⟨rfl, HN.out (step_no HT11.out hm) w2 (only_trans HC11.out.only hg2)⟩)
  intro L12 hm w2 hr2 hg2
  have HT12 := Aside0.mk (step_ok HT11.out hm)
  have HC12 := Aside0.mk (HC11.out.call hg2 hr2)
  have hl12 := Nat.le_trans (must_len hm) hl11
  clear hm hr2 hg2 HT11 HC11 hl11
  go_wp2_with fail
  refine zone_any g L12 _ HC12.out.rd _ ?_ (fun hm w2 hg2 => ⟨rfl, HN.out (step_no HT12.out hm) w2 (only_trans HC12.out.only hg2)⟩)
  intro x13 L13 hm w2 hr2 hg2
  have HT13 := Aside0.mk (step_ok HT12.out hm)
  have HD13 := Aside0.mk (HC12.out.call hg2 hr2)
  have hl13 := Nat.le_trans (zone_len hm) hl12
  obtain ⟨hd1, hd2⟩ := HD13.out.cell 6
  have HC13 := Aside0.mk (HD13.out.set 6 x13)
  clear hm hr2 hg2 HT12 HC12 hl12 hd1 hd2
  have HF : CS w w2 g L13 [x5, x3, x1, x7, x9, x11, 0] := HD13.out
  have hfin := Aside0.mk (HO.out _ _ _ _ _ _ _ HT13.out)
  obtain ⟨c0, f0⟩ := HF.cell 0
  obtain ⟨c1, f1⟩ := HF.cell 1
  obtain ⟨c2, f2⟩ := HF.cell 2
  obtain ⟨c3, f3⟩ := HF.cell 3
  obtain ⟨c4, f4⟩ := HF.cell 4
  obtain ⟨c5, f5⟩ := HF.cell 5
  obtain ⟨c6, f6⟩ := HF.cell 6
  obtain ⟨r0, g0⟩ := HF.rcell 0
  obtain ⟨r1, g1⟩ := HF.rcell 1
  obtain ⟨r2, g2⟩ := HF.rcell 2
  obtain ⟨r3, g3⟩ := HF.rcell 3
  obtain ⟨r4, g4⟩ := HF.rcell 4
  obtain ⟨r5, g5⟩ := HF.rcell 5
  obtain ⟨r6, g6⟩ := HF.rcell 6
  simp only [List.getD_cons_zero, List.getD_cons_succ] at c0 c1 c2 c3 c4 c5 c6
  have HFo := Aside0.mk HF.only
  clear HF HD13 HC13 HT13 HO HN
  go_wp2
  refine bodyPost_ret (v := .agg #[.int .i64 x5, .int .i64 x3, .int .i64 x1, .int .i64 x7, .int .i64 x9, .int .i64 x11, .int .i64 x13]) (by simp [results, Tryd.results40, go_sem, r0, r1, r2, r3, r4, r5, r6]) rfl (hfin.out _ ?_)
  exact only_seven (only_setCell HFo.out (.inr (Nat.le_succ _)) _) (Nat.le_refl _) _ _ _ _ _ _ _
def dayL (l : List UInt8) : Option (Int × Int × Int × Int × Int × Int × Int) :=
 (numberL 1 2 l).bind fun d => (mustL [45] d.2).bind fun l2 => (monthM l2).bind fun m => (mustL [45] m.2).bind fun l4 => (numberL 4 4 l4).bind fun y =>
 (if y.2 = [] then some () else none).bind fun _ => some (y.1, m.1, d.1, 0, 0, 0, 0)
set_option maxHeartbeats 2000000 in
set_option maxRecDepth 100000 in
theorem day1_any (g : Nat) (l : List UInt8) (hll : l.length ≤ 9223372036854775807) (w : World) (hr : Rdr w g 49 l) (R : Ending → World → Prop)
  (hok : ∀ a b c d e f z, dayL l = some (a, b, c, d, e, f, z) → ∀ w', w.grownBy w' (some g) → R (.returned (.agg #[.int .i64 a, .int .i64 b, .int .i64 c, .int .i64 d, .int .i64 e, .int .i64 f, .int .i64 z])) w')
  (hno : dayL l = none → ∀ w', w.grownBy w' (some g) → R (.panicked faultV) w') :
  Calls Tryd.prog 37 #[.pointer (some ⟨g, 0, none⟩)] w R := by
 have HO := Aside0.mk hok
 have HN := Aside0.mk hno
 have hcs := CS.start hr
 have hc := hcs.rd.cell
 have HC := Aside0.mk hcs
 clear hok hno hr hcs
 go_enter Tryd.func37, Tryd.ntmps37
 have HT0 := Aside0.mk (show dayL l = (numberL 1 2 l).bind _ from rfl)
 have HC0 := HC
 have hl0 := hll
 go_wp2_with fail
 clear hc HC
 refine number12 g l _ HC0.out.rd _ ?_ (fun hm w2 hg2 => ⟨rfl, HN.out (step_no HT0.out hm) w2 (only_trans HC0.out.only hg2)⟩)
 intro x1 L1 hm w2 hr2 hg2
 have HT1 := Aside0.mk (step_ok HT0.out hm)
 have HD1 := Aside0.mk (HC0.out.call hg2 hr2)
 have hl1 := Nat.le_trans (number_len hm) hl0
 obtain ⟨hd1, hd2⟩ := HD1.out.cell 2
 have HC1 := Aside0.mk (HD1.out.set 2 x1)
 clear hm hr2 hg2 HT0 HC0 HD1 hl0
 go_wp2_with fail
 clear hd1 hd2
 refine must_any g [45] L1 _ HC1.out.rd _ ?_ (fun hm w2 hg2 => ⟨rfl, HN.out (step_no HT1.out hm) w2 (only_trans HC1.out.only hg2)⟩)
 intro L2 hm w2 hr2 hg2
 have HT2 := Aside0.mk (step_ok HT1.out hm)
 have HC2 := Aside0.mk (HC1.out.call hg2 hr2)
 have hl2 := Nat.le_trans (must_len hm) hl1
 clear hm hr2 hg2 HT1 HC1 hl1
 go_wp2_with fail
 refine month_m g L2 hl2 _ HC2.out.rd _ ?_ (fun hm w2 hg2 => ⟨rfl, HN.out (step_no HT2.out hm) w2 (only_trans HC2.out.only hg2)⟩)
 intro x3 L3 hm w2 hr2 hg2
 have HT3 := Aside0.mk (step_ok HT2.out hm)
 have HD3 := Aside0.mk (HC2.out.call hg2 hr2)
 have hl3 := Nat.le_trans (month_len hm) hl2
 obtain ⟨hd1, hd2⟩ := HD3.out.cell 1
 have HC3 := Aside0.mk (HD3.out.set 1 x3)
 clear hm hr2 hg2 HT2 HC2 HD3 hl2
 go_wp2_with fail
 clear hd1 hd2
 refine must_any g [45] L3 _ HC3.out.rd _ ?_ (fun hm w2 hg2 => ⟨rfl, HN.out (step_no HT3.out hm) w2 (only_trans HC3.out.only hg2)⟩)
 intro L4 hm w2 hr2 hg2
 have HT4 := Aside0.mk (step_ok HT3.out hm)
 have HC4 := Aside0.mk (HC3.out.call hg2 hr2)
 have hl4 := Nat.le_trans (must_len hm) hl3
 clear hm hr2 hg2 HT3 HC3 hl3
 go_wp2_with fail
 refine number44 g L4 _ HC4.out.rd _ ?_ (fun hm w2 hg2 => ⟨rfl, HN.out (step_no HT4.out hm) w2 (only_trans HC4.out.only hg2)⟩)
 intro x5 L5 hm w2 hr2 hg2
 have HT5 := Aside0.mk (step_ok HT4.out hm)
 have HD5 := Aside0.mk (HC4.out.call hg2 hr2)
 have hl5 := Nat.le_trans (number_len hm) hl4
 obtain ⟨hd1, hd2⟩ := HD5.out.cell 0
 have HC5 := Aside0.mk (HD5.out.set 0 x5)
 clear hm hr2 hg2 HT4 HC4 HD5 hl4
 go_wp2_with fail
 clear hd1 hd2
 refine end_any g L5 _ HC5.out.rd _ ?_ (fun hm => ⟨rfl, HN.out (step_no HT5.out (if_neg hm)) _ HC5.out.only⟩)
 intro hm
 have HT6 := Aside0.mk (step_ok HT5.out (if_pos hm))
 have HC6 := HC5
 have hl6 := hl5
 clear hm HT5 HC5 hl5
 have HF : CS w _ g L5 [x5, x3, x1, 0, 0, 0, 0] := HC6.out
 have hfin := Aside0.mk (HO.out _ _ _ _ _ _ _ HT6.out)
 obtain ⟨c0, f0⟩ := HF.cell 0
 obtain ⟨c1, f1⟩ := HF.cell 1
 obtain ⟨c2, f2⟩ := HF.cell 2
 obtain ⟨c3, f3⟩ := HF.cell 3
 obtain ⟨c4, f4⟩ := HF.cell 4
 obtain ⟨c5, f5⟩ := HF.cell 5
 obtain ⟨c6, f6⟩ := HF.cell 6
 obtain ⟨r0, g0⟩ := HF.rcell 0
 obtain ⟨r1, g1⟩ := HF.rcell 1
 obtain ⟨r2, g2⟩ := HF.rcell 2
 obtain ⟨r3, g3⟩ := HF.rcell 3
 obtain ⟨r4, g4⟩ := HF.rcell 4
 obtain ⟨r5, g5⟩ := HF.rcell 5
 obtain ⟨r6, g6⟩ := HF.rcell 6
 simp only [List.getD_cons_zero, List.getD_cons_succ] at c0 c1 c2 c3 c4 c5 c6
 have HFo := Aside0.mk HF.only
 clear HF HC6 HT6 HO HN
 go_wp2
 refine bodyPost_ret (v := .agg #[.int .i64 x5, .int .i64 x3, .int .i64 x1, .int .i64 0, .int .i64 0, .int .i64 0, .int .i64 0]) (by simp [results, Tryd.results37, go_sem, r0, r1, r2, r3, r4, r5, r6]) rfl (hfin.out _ ?_)
 exact only_seven HFo.out (Nat.le_refl _) _ _ _ _ _ _ _
set_option maxHeartbeats 1000000 in
set_option maxRecDepth 100000 in
def isBl (c : UInt8) : Bool := [9, 10, 13, 32].contains c
def blanksL (l : List UInt8) : List UInt8 := l.dropWhile isBl
def gapL (l : List UInt8) : Option (List UInt8) := if (blanksL l).length < l.length then some (blanksL l) else none
theorem blanks_le (l : List UInt8) : (blanksL l).length ≤ l.length := (List.dropWhile_sublist isBl (l := l)).length_le
theorem gap_len {l l' : List UInt8} (h : gapL l = some l') : l'.length ≤ l.length := by
 unfold gapL at h
 split at h
 ·
  injection h with h; rw [← h]; exact blanks_le l
 ·
  cases h
theorem blanks_any (g : Nat) (l : List UInt8) (hll : l.length ≤ 9223372036854775807) (w : World) (hr : Rdr w g 49 l) :
  Calls Tryd.prog 19 #[.pointer (some ⟨g, 0, none⟩)] w fun e w' => e = .returned (.int .i64 ((l.length : Int) - (blanksL l).length)) ∧ Rdr w' g 49 (blanksL l) ∧ w.grownBy w' (some g) := by
 have hc := hr.cell
 have hf := hr.frozen
 have HR := Aside0.mk hr
 have hle := blanks_le l
 clear hr
 go_enter Tryd.func19, Tryd.ntmps19
 go_wp2_with fail
 refine (trimLeft_any ⟨l.toArray⟩ ⟨#[9, 10, 13, 32]⟩ _ (by decide) (Go.Proofs.ascii_of_all (by decide))).mono ?_
 rintro e w1 ⟨rfl, hb⟩
 have hbl : Lib.trimLeftS (⟨l.toArray⟩ : ByteArray).data.toList (⟨#[9, 10, 13, 32]⟩ : ByteArray).data.toList = blanksL l := rfl
 rw [hbl]
 have hR1 : Rdr w1 g 49 l := HR.out.below hb HR.out.lt
 have hc1 := hR1.cell
 have hf1 := hR1.frozen
 have H1 := Aside0.mk (And.intro hR1 (only_below (only_refl w g) hb))
 clear hb hc hf hbl hR1
 go_wp2
 go_ret
 exact ⟨rfl, H1.out.1.set _, only_setCell H1.out.2 (.inl rfl) _⟩
theorem gap_any (g : Nat) (l : List UInt8) (hll : l.length ≤ 9223372036854775807) (w : World) (hr : Rdr w g 49 l) (R : Ending → World → Prop)
  (hok : ∀ l', gapL l = some l' → ∀ w', Rdr w' g 49 l' → w.grownBy w' (some g) → R (.returned (.tuple #[])) w')
  (hno : gapL l = none → ∀ w', w.grownBy w' (some g) → R (.panicked faultV) w') :
  Calls Tryd.prog 22 #[.pointer (some ⟨g, 0, none⟩)] w R := by
 have HO := Aside0.mk hok
 have HN := Aside0.mk hno
 have HR := Aside0.mk hr
 have hle := blanks_le l
 clear hok hno hr
 go_enter Tryd.func22, Tryd.ntmps22
 go_wp2_with fail
 refine (blanks_any g l hll w HR.out).mono ?_
 rintro e w1 ⟨rfl, hr1, hg1⟩
 by_cases hlt : (blanksL l).length < l.length
 ·
  have H := Aside0.mk (HO.out _ (by unfold gapL; rw [if_pos hlt]) w1 hr1 hg1)
  have he : (((l.length : Int) - (blanksL l).length) == 0) = false := beq_eq_false_iff_ne.2 (by omega)
  clear HO HN hr1 hg1 hlt hle
  go_wp2
  go_end0
  exact H.out
 ·
  have H := Aside0.mk (HN.out (by unfold gapL; rw [if_neg hlt]) w1 hg1)
  have he : (((l.length : Int) - (blanksL l).length) == 0) = true := beq_iff_eq.2 (by omega)
  clear HO HN hr1 hg1 hlt hle
  go_wp2
  exact ⟨rfl, H.out⟩
theorem CS.below {w0 w w' : World} {g : Nat} {l : List UInt8} {vs : List Int} (h : CS w0 w g l vs) (hb : Below w.heap.size w w') : CS w0 w' g l vs :=
 h.call (only_below (only_refl w g) hb) (h.rd.below hb h.rd.lt)
theorem CS.put {w0 w : World} {g : Nat} {l : List UInt8} {vs : List Int} (h : CS w0 w g l vs) (l' : List UInt8) : CS w0 (w.setCell ⟨g, 0, none⟩ (.string ⟨l'.toArray⟩)) g l' vs :=
 h.call (only_setCell (only_refl w g) (.inl rfl) _) (h.rd.set l')
def weekdaysL : List UInt8 := [77, 111, 110, 84, 117, 101, 87, 101, 100, 84, 104, 117, 70, 114, 105, 83, 97, 116, 83, 117, 110]
def mailS (l : List UInt8) : Option (Int × List UInt8) := if [58].isPrefixOf l then (mustL [58] l).bind fun l1 => numberL 2 2 l1 else some (0, l)
def mailZ (l : List UInt8) : Option (Int × List UInt8) := if [103, 109, 116].isPrefixOf (lowL l) then some (0, l.drop 3) else if [117, 116].isPrefixOf (lowL l) then some (0, l.drop 2) else zoneL l
def mailT (l : List UInt8) : Option (Int × Int × Int × Int × Int × Int × Int) :=
 (numberL 1 2 l).bind fun d => (gapL d.2).bind fun l2 => (monthM l2).bind fun m => (gapL m.2).bind fun l4 => (numberL 4 4 l4).bind fun y => (gapL y.2).bind fun l6 =>
 (numberL 2 2 l6).bind fun h => (mustL [58] h.2).bind fun l8 => (numberL 2 2 l8).bind fun mi => (mailS mi.2).bind fun s => (gapL s.2).bind fun l12 => (mailZ l12).bind fun z =>
 (if blanksL z.2 = [] then some () else none).bind fun _ => some (y.1, m.1, d.1, h.1, mi.1, s.1, z.1)
def mailL (l : List UInt8) : Option (Int × Int × Int × Int × Int × Int × Int) :=
 match nameL weekdaysL (blanksL l) with
 | some _ => (mustL [44] ((blanksL l).drop 3)).bind fun l1 => (gapL l1).bind mailT
 | none => mailT (blanksL l)
set_option maxHeartbeats 2000000 in
set_option maxRecDepth 100000 in
theorem mail1_any (g : Nat) (l : List UInt8) (hll : l.length ≤ 9223372036854775807) (w : World) (hr : Rdr w g 49 l) (R : Ending → World → Prop)
  (hok : ∀ a b c d e f z, mailL l = some (a, b, c, d, e, f, z) → ∀ w', w.grownBy w' (some g) → R (.returned (.agg #[.int .i64 a, .int .i64 b, .int .i64 c, .int .i64 d, .int .i64 e, .int .i64 f, .int .i64 z])) w')
  (hno : mailL l = none → ∀ w', w.grownBy w' (some g) → R (.panicked faultV) w') :
  Calls Tryd.prog 18 #[.pointer (some ⟨g, 0, none⟩)] w R := by
 have HO := Aside0.mk hok
 have HN := Aside0.mk hno
 have hcs := CS.start hr
 have hc := hcs.rd.cell
 have HC := Aside0.mk hcs
 clear hok hno hr hcs
 go_enter Tryd.func18, Tryd.ntmps18
 go_wp2_with fail
 refine (blanks_any g l hll _ HC.out.rd).mono ?_
 rintro e w2 ⟨rfl, hr2, hg2⟩
 have HE := Aside0.mk (HC.out.call hg2 hr2)
 have hl0 : (blanksL l).length ≤ 9223372036854775807 := Nat.le_trans (blanks_le l) hll
 clear hr2 hg2 hc HC
 go_wp2_with fail
 refine name_any g weekdaysL (blanksL l) 7 rfl (by omega) hl0 _ HE.out.rd _ ?_ ?_
 ·
  intro j hj w2 hr2 hg2
  have HT0 := Aside0.mk (show mailL l = (mustL [44] ((blanksL l).drop 3)).bind _ by unfold mailL; rw [hj])
  have HC0 := Aside0.mk (HE.out.call hg2 hr2)
  have hl1 : ((blanksL l).drop 3).length ≤ 9223372036854775807 := by rw [List.length_drop]; omega
  clear hl0
  have hl0 := hl1
  have hgt : decide ((0 : Int) < (j : Int) + 1) = true := decide_eq_true (by omega)
  clear hl1 hj hr2 hg2 HE
  go_wp2_with fail
  clear hgt
  refine must_any g [44] ((blanksL l).drop 3) _ HC0.out.rd _ ?_ (fun hm w2 hg2 => ⟨rfl, HN.out (step_no HT0.out hm) w2 (only_trans HC0.out.only hg2)⟩)
  intro L1 hm w2 hr2 hg2
  have HT1 := Aside0.mk (step_ok HT0.out hm)
  have HC1 := Aside0.mk (HC0.out.call hg2 hr2)
  have hl1 := Nat.le_trans (must_len hm) hl0
  clear hm hr2 hg2 HT0 HC0 hl0
  go_wp2_with fail
  refine gap_any g L1 hl1 _ HC1.out.rd _ ?_ (fun hm w2 hg2 => ⟨rfl, HN.out (step_no HT1.out hm) w2 (only_trans HC1.out.only hg2)⟩)
  intro L2 hm w2 hr2 hg2
  have HT2 := Aside0.mk (step_ok HT1.out hm)
  have HC2 := Aside0.mk (HC1.out.call hg2 hr2)
  have hl2 := Nat.le_trans (gap_len hm) hl1
  clear hm hr2 hg2 HT1 HC1 hl1
  go_wp2_with fail
  refine number12 g L2 _ HC2.out.rd _ ?_ (fun hm w2 hg2 => ⟨rfl, HN.out (step_no HT2.out hm) w2 (only_trans HC2.out.only hg2)⟩)
  intro x3 L3 hm w2 hr2 hg2
  have HT3 := Aside0.mk (step_ok HT2.out hm)
  have HD3 := Aside0.mk (HC2.out.call hg2 hr2)
  have hl3 := Nat.le_trans (number_len hm) hl2
  obtain ⟨hd1, hd2⟩ := HD3.out.cell 2
  have HC3 := Aside0.mk (HD3.out.set 2 x3)
  clear hm hr2 hg2 HT2 HC2 HD3 hl2
  go_wp2_with fail
  clear hd1 hd2
  refine gap_any g L3 hl3 _ HC3.out.rd _ ?_ (fun hm w2 hg2 => ⟨rfl, HN.out (step_no HT3.out hm) w2 (only_trans HC3.out.only hg2)⟩)
  intro L4 hm w2 hr2 hg2
  have HT4 := Aside0.mk (step_ok HT3.out hm)
  have HC4 := Aside0.mk (HC3.out.call hg2 hr2)
  have hl4 := Nat.le_trans (gap_len hm) hl3
  clear hm hr2 hg2 HT3 HC3 hl3
  go_wp2_with fail
  refine month_m g L4 hl4 _ HC4.out.rd _ ?_ (fun hm w2 hg2 => ⟨rfl, HN.out (step_no HT4.out hm) w2 (only_trans HC4.out.only hg2)⟩)
  intro x5 L5 hm w2 hr2 hg2
  have HT5 := Aside0.mk (step_ok HT4.out hm)
  have HD5 := Aside0.mk (HC4.out.call hg2 hr2)
  have hl5 := Nat.le_trans (month_len hm) hl4
  obtain ⟨hd1, hd2⟩ := HD5.out.cell 1
  have HC5 := Aside0.mk (HD5.out.set 1 x5)
  clear hm hr2 hg2 HT4 HC4 HD5 hl4
  go_wp2_with fail
  clear hd1 hd2
  refine gap_any g L5 hl5 _ HC5.out.rd _ ?_ (fun hm w2 hg2 => ⟨rfl, HN.out (step_no HT5.out hm) w2 (only_trans HC5.out.only hg2)⟩)
  intro L6 hm w2 hr2 hg2
  have HT6 := Aside0.mk (step_ok HT5.out hm)
  have HC6 := Aside0.mk (HC5.out.call hg2 hr2)
  have hl6 := Nat.le_trans (gap_len hm) hl5
  clear hm hr2 hg2 HT5 HC5 hl5
  go_wp2_with fail
  refine number44 g L6 _ HC6.out.rd _ ?_ (fun hm w2 hg2 => ⟨rfl, HN.out (step_no HT6.out hm) w2 (only_trans HC6.out.only hg2)⟩)
  intro x7 L7 hm w2 hr2 hg2
  have HT7 := Aside0.mk (step_ok HT6.out hm)
  have HD7 := Aside0.mk (HC6.out.call hg2 hr2)
  have hl7 := Nat.le_trans (number_len hm) hl6
  obtain ⟨hd1, hd2⟩ := HD7.out.cell 0
  have HC7 := Aside0.mk (HD7.out.set 0 x7)
  clear hm hr2 hg2 HT6 HC6 HD7 hl6
  go_wp2_with fail
  clear hd1 hd2
  refine gap_any g L7 hl7 _ HC7.out.rd _ ?_ (fun hm w2 hg2 => ⟨rfl, HN.out (step_no HT7.out hm) w2 (only_trans HC7.out.only hg2)⟩)
  intro L8 hm w2 hr2 hg2
  have HT8 := Aside0.mk (step_ok HT7.out hm)
  have HC8 := Aside0.mk (HC7.out.call hg2 hr2)
  have hl8 := Nat.le_trans (gap_len hm) hl7
  clear hm hr2 hg2 HT7 HC7 hl7
  go_wp2_with fail
  refine number22 g L8 _ HC8.out.rd _ ?_ (fun hm w2 hg2 => ⟨rfl, HN.out (step_no HT8.out hm) w2 (only_trans HC8.out.only hg2)⟩)
  intro x9 L9 hm w2 hr2 hg2
  have HT9 := Aside0.mk (step_ok HT8.out hm)
  have HD9 := Aside0.mk (HC8.out.call hg2 hr2)
  have hl9 := Nat.le_trans (number_len hm) hl8
  obtain ⟨hd1, hd2⟩ := HD9.out.cell 3
  have HC9 := Aside0.mk (HD9.out.set 3 x9)
  clear hm hr2 hg2 HT8 HC8 HD9 hl8
  go_wp2_with fail
  clear hd1 hd2
  refine must_any g [58] L9 _ HC9.out.rd _ ?_ (fun hm w2 hg2 => ⟨rfl, HN.out (step_no HT9.out hm) w2 (only_trans HC9.out.only hg2)⟩)
  intro L10 hm w2 hr2 hg2
  have HT10 := Aside0.mk (step_ok HT9.out hm)
  have HC10 := Aside0.mk (HC9.out.call hg2 hr2)
  have hl10 := Nat.le_trans (must_len hm) hl9
  clear hm hr2 hg2 HT9 HC9 hl9
  go_wp2_with fail
  refine number22 g L10 _ HC10.out.rd _ ?_ (fun hm w2 hg2 => ⟨rfl, HN.out (step_no HT10.out hm) w2 (only_trans HC10.out.only hg2)⟩)
  intro x11 L11 hm w2 hr2 hg2
  have HT11 := Aside0.mk (step_ok HT10.out hm)
  have HD11 := Aside0.mk (HC10.out.call hg2 hr2)
  have hl11 := Nat.le_trans (number_len hm) hl10
  obtain ⟨hd1, hd2⟩ := HD11.out.cell 4
  have HC11 := Aside0.mk (HD11.out.set 4 x11)
  clear hm hr2 hg2 HT10 HC10 HD11 hl10
  have hrc := HC11.out.rd.cell
  go_wp2_with fail
  clear hd1 hd2 hrc
  cases hp11 : [58].isPrefixOf L11 with
  | true =>
   refine (strings_HasPrefix.calls _ _ true _ (by rw [hasPrefix_is, hp11])).mono ?_
   rintro e w1 ⟨rfl, ⟨⟨n12, rfl⟩⟩⟩
   have HC12 := Aside0.mk (HC11.out.drewN n12)
   have HT12 := Aside0.mk (show mailL l = (mustL [58] L11).bind fun l1 => (numberL 2 2 l1).bind _ from HT11.out.trans (by rw [show mailS L11 = (mustL [58] L11).bind fun l1 => numberL 2 2 l1 by unfold mailS; rw [if_pos hp11]]; rw [Option.bind_assoc]))
   have hl12 := hl11
   clear hp11 HC11 HT11 hl11
   go_wp2_with fail
   refine must_any g [58] L11 _ HC12.out.rd _ ?_ (fun hm w2 hg2 => ⟨rfl, HN.out (step_no HT12.out hm) w2 (only_trans HC12.out.only hg2)⟩)
   intro L13 hm w2 hr2 hg2
   have HT13 := Aside0.mk (step_ok HT12.out hm)
   have HC13 := Aside0.mk (HC12.out.call hg2 hr2)
   have hl13 := Nat.le_trans (must_len hm) hl12
   clear hm hr2 hg2 HT12 HC12 hl12
   go_wp2_with fail
   refine number22 g L13 _ HC13.out.rd _ ?_ (fun hm w2 hg2 => ⟨rfl, HN.out (step_no HT13.out hm) w2 (only_trans HC13.out.only hg2)⟩)
   intro x14 L14 hm w2 hr2 hg2
   have HT14 := Aside0.mk (step_ok HT13.out hm)
   have HD14 := Aside0.mk (HC13.out.call hg2 hr2)
   have hl14 := Nat.le_trans (number_len hm) hl13
   obtain ⟨hd1, hd2⟩ := HD14.out.cell 5
   have HC14 := Aside0.mk (HD14.out.set 5 x14)
   clear hm hr2 hg2 HT13 HC13 HD14 hl13
   go_wp2_with fail
   clear hd1 hd2
   refine gap_any g L14 hl14 _ HC14.out.rd _ ?_ (fun hm w2 hg2 => ⟨rfl, HN.out (step_no HT14.out hm) w2 (only_trans HC14.out.only hg2)⟩)
   intro L15 hm w2 hr2 hg2
   have HT15 := Aside0.mk (step_ok HT14.out hm)
   have HC15 := Aside0.mk (HC14.out.call hg2 hr2)
   have hl15 := Nat.le_trans (gap_len hm) hl14
   clear hm hr2 hg2 HT14 HC14 hl14
   have hrc := HC15.out.rd.cell
   go_wp2_with fail
   clear hrc
   refine (lower_any ⟨L15.toArray⟩ _ hl15).mono ?_
   rintro e w2 ⟨rfl, hb2⟩
   have HC16 := Aside0.mk (HC15.out.below hb2)
   have HT16 := HT15
   have hl16 := hl15
   clear hb2 HC15 HT15 hl15
   have hlow : lowB ⟨L15.toArray⟩ = ⟨(lowL L15).toArray⟩ := rfl
   rw [hlow]
   clear hlow
   go_wp2_with fail
   cases hp16 : [103, 109, 116].isPrefixOf (lowL L15) with
   | true =>
    refine (strings_HasPrefix.calls _ _ true _ (by rw [hasPrefix_is, hp16])).mono ?_
    rintro e w1 ⟨rfl, ⟨⟨n17, rfl⟩⟩⟩
    have hrd := HC16.out.rd.drewN n17
    have hrc := hrd.cell
    have hrf := hrd.frozen
    have hlen := prefix_le hp16
    have HC17 := Aside0.mk (HC16.out.drewN n17)
    have HT17 := Aside0.mk (step_ok HT16.out (show mailZ L15 = some (0, L15.drop 3) by unfold mailZ; rw [if_pos hp16]))
    have hl17 : (L15.drop 3).length ≤ 9223372036854775807 := by rw [List.length_drop]; omega
    rw [lowL, List.length_map] at hlen
    simp only [List.length_cons, List.length_nil] at hlen
    clear hrd HT16 hl16
    go_wp2_with fail
    have HX := Aside0.mk (HC17.out.put (L15.drop 3))
    clear hrc hrf HC17
    have HC17 := HX
    clear HX
    rw [ba_drop]
    refine (blanks_any g (L15.drop 3) hl17 _ HC17.out.rd).mono ?_
    rintro e w2 ⟨rfl, hr2, hg2⟩
    have HC18 := Aside0.mk (HC17.out.call hg2 hr2)
    clear hr2 hg2 HC17
    go_wp2_with fail
    refine end_any g (blanksL (L15.drop 3)) _ HC18.out.rd _ ?_ (fun hm => ⟨rfl, HN.out (step_no HT17.out (if_neg hm)) _ HC18.out.only⟩)
    intro hm
    have HT18 := Aside0.mk (step_ok HT17.out (if_pos hm))
    clear hm HT17
    have HF : CS w _ g (blanksL (L15.drop 3)) [x7, x5, x3, x9, x11, x14, 0] := HC18.out
    have hfin := Aside0.mk (HO.out _ _ _ _ _ _ _ HT18.out)
    obtain ⟨c0, f0⟩ := HF.cell 0
    obtain ⟨c1, f1⟩ := HF.cell 1
    obtain ⟨c2, f2⟩ := HF.cell 2
    obtain ⟨c3, f3⟩ := HF.cell 3
    obtain ⟨c4, f4⟩ := HF.cell 4
    obtain ⟨c5, f5⟩ := HF.cell 5
    obtain ⟨c6, f6⟩ := HF.cell 6
    obtain ⟨r0, g0⟩ := HF.rcell 0
    obtain ⟨r1, g1⟩ := HF.rcell 1
    obtain ⟨r2, g2⟩ := HF.rcell 2
    obtain ⟨r3, g3⟩ := HF.rcell 3
    obtain ⟨r4, g4⟩ := HF.rcell 4
    obtain ⟨r5, g5⟩ := HF.rcell 5
    obtain ⟨r6, g6⟩ := HF.rcell 6
    simp only [List.getD_cons_zero, List.getD_cons_succ] at c0 c1 c2 c3 c4 c5 c6
    have HFo := Aside0.mk HF.only
    clear HF HC18 HT18 HO HN
    go_wp2
    refine bodyPost_ret (v := .agg #[.int .i64 x7, .int .i64 x5, .int .i64 x3, .int .i64 x9, .int .i64 x11, .int .i64 x14, .int .i64 0]) (by simp [results, Tryd.results18, go_sem, r0, r1, r2, r3, r4, r5, r6]) rfl (hfin.out _ ?_)
    exact only_seven HFo.out (Nat.le_refl _) _ _ _ _ _ _ _
   | false =>
    refine (strings_HasPrefix.calls _ _ false _ (by rw [hasPrefix_is, hp16])).mono ?_
    rintro e w1 ⟨rfl, ⟨⟨n19, rfl⟩⟩⟩
    have HC19 := Aside0.mk (HC16.out.drewN n19)
    have HT19 := HT16
    have hl19 := hl16
    have hq19 := hp16
    clear hp16 HC16 HT16 hl16
    generalize w2.drewN n19 = w2 at HC19 ⊢
    go_wp2_with fail
    cases hp19 : [117, 116].isPrefixOf (lowL L15) with
    | true =>
     refine (strings_HasPrefix.calls _ _ true _ (by rw [hasPrefix_is, hp19])).mono ?_
     rintro e w1 ⟨rfl, ⟨⟨n20, rfl⟩⟩⟩
     have hrd := HC19.out.rd.drewN n20
     have hrc := hrd.cell
     have hrf := hrd.frozen
     have hlen := prefix_le hp19
     have HC20 := Aside0.mk (HC19.out.drewN n20)
     have HT20 := Aside0.mk (step_ok HT19.out (show mailZ L15 = some (0, L15.drop 2) by unfold mailZ; rw [if_neg (by rw [hq19]; simp)]; rw [if_pos hp19]))
     have hl20 : (L15.drop 2).length ≤ 9223372036854775807 := by rw [List.length_drop]; omega
     rw [lowL, List.length_map] at hlen
     simp only [List.length_cons, List.length_nil] at hlen
     clear hrd HT19 hl19
     go_wp2_with fail
     have HX := Aside0.mk (HC20.out.put (L15.drop 2))
     clear hrc hrf HC20
     have HC20 := HX
     clear HX
     rw [ba_drop]
     refine (blanks_any g (L15.drop 2) hl20 _ HC20.out.rd).mono ?_
     rintro e w2 ⟨rfl, hr2, hg2⟩
     have HC21 := Aside0.mk (HC20.out.call hg2 hr2)
     clear hr2 hg2 HC20
     go_wp2_with fail
     refine end_any g (blanksL (L15.drop 2)) _ HC21.out.rd _ ?_ (fun hm => ⟨rfl, HN.out (step_no HT20.out (if_neg hm)) _ HC21.out.only⟩)
     intro hm
     have HT21 := Aside0.mk (step_ok HT20.out (if_pos hm))
     clear hm HT20
     have HF : CS w _ g (blanksL (L15.drop 2)) [x7, x5, x3, x9, x11, x14, 0] := HC21.out
     have hfin := Aside0.mk (HO.out _ _ _ _ _ _ _ HT21.out)
     obtain ⟨c0, f0⟩ := HF.cell 0
     obtain ⟨c1, f1⟩ := HF.cell 1
     obtain ⟨c2, f2⟩ := HF.cell 2
     obtain ⟨c3, f3⟩ := HF.cell 3
     obtain ⟨c4, f4⟩ := HF.cell 4
     obtain ⟨c5, f5⟩ := HF.cell 5
     obtain ⟨c6, f6⟩ := HF.cell 6
     obtain ⟨r0, g0⟩ := HF.rcell 0
     obtain ⟨r1, g1⟩ := HF.rcell 1
     obtain ⟨r2, g2⟩ := HF.rcell 2
     obtain ⟨r3, g3⟩ := HF.rcell 3
     obtain ⟨r4, g4⟩ := HF.rcell 4
     obtain ⟨r5, g5⟩ := HF.rcell 5
     obtain ⟨r6, g6⟩ := HF.rcell 6
     simp only [List.getD_cons_zero, List.getD_cons_succ] at c0 c1 c2 c3 c4 c5 c6
     have HFo := Aside0.mk HF.only
     clear HF HC21 HT21 HO HN
     go_wp2
     refine bodyPost_ret (v := .agg #[.int .i64 x7, .int .i64 x5, .int .i64 x3, .int .i64 x9, .int .i64 x11, .int .i64 x14, .int .i64 0]) (by simp [results, Tryd.results18, go_sem, r0, r1, r2, r3, r4, r5, r6]) rfl (hfin.out _ ?_)
     exact only_seven HFo.out (Nat.le_refl _) _ _ _ _ _ _ _
    | false =>
     refine (strings_HasPrefix.calls _ _ false _ (by rw [hasPrefix_is, hp19])).mono ?_
     rintro e w1 ⟨rfl, ⟨⟨n22, rfl⟩⟩⟩
     have HC22 := Aside0.mk (HC19.out.drewN n22)
     have HT22 := HT19
     have hl22 := hl19
     have hq22 := hp19
     clear hp19 HC19 HT19 hl19
     generalize w2.drewN n22 = w2 at HC22 ⊢
     go_wp2_with fail
     have HT23 := Aside0.mk (show mailL l = (zoneL L15).bind _ from (HT22.out.trans (by rw [show mailZ L15 = zoneL L15 by unfold mailZ; rw [if_neg (by rw [hq19]; simp), if_neg (by rw [hq22]; simp)]])))
     have HC23 := HC22
     have hl23 := hl22
     clear HT22 HC22 hl22
     refine zone_any g L15 _ HC23.out.rd _ ?_ (fun hm w2 hg2 => ⟨rfl, HN.out (step_no HT23.out hm) w2 (only_trans HC23.out.only hg2)⟩)
     intro x24 L24 hm w2 hr2 hg2
     have HT24 := Aside0.mk (step_ok HT23.out hm)
     have HD24 := Aside0.mk (HC23.out.call hg2 hr2)
     have hl24 := Nat.le_trans (zone_len hm) hl23
     obtain ⟨hd1, hd2⟩ := HD24.out.cell 6
     have HC24 := Aside0.mk (HD24.out.set 6 x24)
     clear hm hr2 hg2 HT23 HC23 HD24 hl23
     go_wp2_with fail
     clear hd1 hd2
     refine (blanks_any g L24 hl24 _ HC24.out.rd).mono ?_
     rintro e w2 ⟨rfl, hr2, hg2⟩
     have HC25 := Aside0.mk (HC24.out.call hg2 hr2)
     clear hr2 hg2 HC24
     go_wp2_with fail
     refine end_any g (blanksL L24) _ HC25.out.rd _ ?_ (fun hm => ⟨rfl, HN.out (step_no HT24.out (if_neg hm)) _ HC25.out.only⟩)
     intro hm
     have HT25 := Aside0.mk (step_ok HT24.out (if_pos hm))
     clear hm HT24
     have HF : CS w _ g (blanksL L24) [x7, x5, x3, x9, x11, x14, x24] := HC25.out
     have hfin := Aside0.mk (HO.out _ _ _ _ _ _ _ HT25.out)
     obtain ⟨c0, f0⟩ := HF.cell 0
     obtain ⟨c1, f1⟩ := HF.cell 1
     obtain ⟨c2, f2⟩ := HF.cell 2
     obtain ⟨c3, f3⟩ := HF.cell 3
     obtain ⟨c4, f4⟩ := HF.cell 4
     obtain ⟨c5, f5⟩ := HF.cell 5
     obtain ⟨c6, f6⟩ := HF.cell 6
     obtain ⟨r0, g0⟩ := HF.rcell 0
     obtain ⟨r1, g1⟩ := HF.rcell 1
     obtain ⟨r2, g2⟩ := HF.rcell 2
     obtain ⟨r3, g3⟩ := HF.rcell 3
     obtain ⟨r4, g4⟩ := HF.rcell 4
     obtain ⟨r5, g5⟩ := HF.rcell 5
     obtain ⟨r6, g6⟩ := HF.rcell 6
     simp only [List.getD_cons_zero, List.getD_cons_succ] at c0 c1 c2 c3 c4 c5 c6
     have HFo := Aside0.mk HF.only
     clear HF HC25 HT25 HO HN
     go_wp2
     refine bodyPost_ret (v := .agg #[.int .i64 x7, .int .i64 x5, .int .i64 x3, .int .i64 x9, .int .i64 x11, .int .i64 x14, .int .i64 x24]) (by simp [results, Tryd.results18, go_sem, r0, r1, r2, r3, r4, r5, r6]) rfl (hfin.out _ ?_)
     exact only_seven HFo.out (Nat.le_refl _) _ _ _ _ _ _ _
  | false =>
   refine (strings_HasPrefix.calls _ _ false _ (by rw [hasPrefix_is, hp11])).mono ?_
   rintro e w1 ⟨rfl, ⟨⟨n26, rfl⟩⟩⟩
   have HC26 := Aside0.mk (HC11.out.drewN n26)
   have HT26 := Aside0.mk (step_ok HT11.out (show mailS L11 = some (0, L11) by unfold mailS; rw [if_neg (by rw [hp11]; simp)]))
   have hl26 := hl11
   clear hp11 HC11 HT11 hl11
   go_wp2_with fail
   refine gap_any g L11 hl26 _ HC26.out.rd _ ?_ (fun hm w2 hg2 => ⟨rfl, HN.out (step_no HT26.out hm) w2 (only_trans HC26.out.only hg2)⟩)
   intro L27 hm w2 hr2 hg2
   have HT27 := Aside0.mk (step_ok HT26.out hm)
   have HC27 := Aside0.mk (HC26.out.call hg2 hr2)
   have hl27 := Nat.le_trans (gap_len hm) hl26
   clear hm hr2 hg2 HT26 HC26 hl26
   have hrc := HC27.out.rd.cell
   go_wp2_with fail
   clear hrc
   refine (lower_any ⟨L27.toArray⟩ _ hl27).mono ?_
   rintro e w2 ⟨rfl, hb2⟩
   have HC28 := Aside0.mk (HC27.out.below hb2)
   have HT28 := HT27
   have hl28 := hl27
   clear hb2 HC27 HT27 hl27
   have hlow : lowB ⟨L27.toArray⟩ = ⟨(lowL L27).toArray⟩ := rfl
   rw [hlow]
   clear hlow
   go_wp2_with fail
   cases hp28 : [103, 109, 116].isPrefixOf (lowL L27) with
   | true =>
    refine (strings_HasPrefix.calls _ _ true _ (by rw [hasPrefix_is, hp28])).mono ?_
    rintro e w1 ⟨rfl, ⟨⟨n29, rfl⟩⟩⟩
    have hrd := HC28.out.rd.drewN n29
    have hrc := hrd.cell
    have hrf := hrd.frozen
    have hlen := prefix_le hp28
    have HC29 := Aside0.mk (HC28.out.drewN n29)
    have HT29 := Aside0.mk (step_ok HT28.out (show mailZ L27 = some (0, L27.drop 3) by unfold mailZ; rw [if_pos hp28]))
    have hl29 : (L27.drop 3).length ≤ 9223372036854775807 := by rw [List.length_drop]; omega
    rw [lowL, List.length_map] at hlen
    simp only [List.length_cons, List.length_nil] at hlen
    clear hrd HT28 hl28
    go_wp2_with fail
    have HX := Aside0.mk (HC29.out.put (L27.drop 3))
    clear hrc hrf HC29
    have HC29 := HX
    clear HX
    rw [ba_drop]
    refine (blanks_any g (L27.drop 3) hl29 _ HC29.out.rd).mono ?_
    rintro e w2 ⟨rfl, hr2, hg2⟩
    have HC30 := Aside0.mk (HC29.out.call hg2 hr2)
    clear hr2 hg2 HC29
    go_wp2_with fail
    refine end_any g (blanksL (L27.drop 3)) _ HC30.out.rd _ ?_ (fun hm => ⟨rfl, HN.out (step_no HT29.out (if_neg hm)) _ HC30.out.only⟩)
    intro hm
    have HT30 := Aside0.mk (step_ok HT29.out (if_pos hm))
    clear hm HT29
    have HF : CS w _ g (blanksL (L27.drop 3)) [x7, x5, x3, x9, x11, 0, 0] := HC30.out
    have hfin := Aside0.mk (HO.out _ _ _ _ _ _ _ HT30.out)
    obtain ⟨c0, f0⟩ := HF.cell 0
    obtain ⟨c1, f1⟩ := HF.cell 1
    obtain ⟨c2, f2⟩ := HF.cell 2
    obtain ⟨c3, f3⟩ := HF.cell 3
    obtain ⟨c4, f4⟩ := HF.cell 4
    obtain ⟨c5, f5⟩ := HF.cell 5
    obtain ⟨c6, f6⟩ := HF.cell 6
    obtain ⟨r0, g0⟩ := HF.rcell 0
    obtain ⟨r1, g1⟩ := HF.rcell 1
    obtain ⟨r2, g2⟩ := HF.rcell 2
    obtain ⟨r3, g3⟩ := HF.rcell 3
    obtain ⟨r4, g4⟩ := HF.rcell 4
    obtain ⟨r5, g5⟩ := HF.rcell 5
    obtain ⟨r6, g6⟩ := HF.rcell 6
    simp only [List.getD_cons_zero, List.getD_cons_succ] at c0 c1 c2 c3 c4 c5 c6
    have HFo := Aside0.mk HF.only
    clear HF HC30 HT30 HO HN
    go_wp2
    refine bodyPost_ret (v := .agg #[.int .i64 x7, .int .i64 x5, .int .i64 x3, .int .i64 x9, .int .i64 x11, .int .i64 0, .int .i64 0]) (by simp [results, Tryd.results18, go_sem, r0, r1, r2, r3, r4, r5, r6]) rfl (hfin.out _ ?_)
    exact only_seven HFo.out (Nat.le_refl _) _ _ _ _ _ _ _
   | false =>
    refine (strings_HasPrefix.calls _ _ false _ (by rw [hasPrefix_is, hp28])).mono ?_
    rintro e w1 ⟨rfl, ⟨⟨n31, rfl⟩⟩⟩
    have HC31 := Aside0.mk (HC28.out.drewN n31)
    have HT31 := HT28
    have hl31 := hl28
    have hq31 := hp28
    clear hp28 HC28 HT28 hl28
    generalize w2.drewN n31 = w2 at HC31 ⊢
    go_wp2_with fail
    cases hp31 : [117, 116].isPrefixOf (lowL L27) with
    | true =>
     refine (strings_HasPrefix.calls _ _ true _ (by rw [hasPrefix_is, hp31])).mono ?_
     rintro e w1 ⟨rfl, ⟨⟨n32, rfl⟩⟩⟩
     have hrd := HC31.out.rd.drewN n32
     have hrc := hrd.cell
     have hrf := hrd.frozen
     have hlen := prefix_le hp31
     have HC32 := Aside0.mk (HC31.out.drewN n32)
     have HT32 := Aside0.mk (step_ok HT31.out (show mailZ L27 = some (0, L27.drop 2) by unfold mailZ; rw [if_neg (by rw [hq31]; simp)]; rw [if_pos hp31]))
     have hl32 : (L27.drop 2).length ≤ 9223372036854775807 := by rw [List.length_drop]; omega
     rw [lowL, List.length_map] at hlen
     simp only [List.length_cons, List.length_nil] at hlen
     clear hrd HT31 hl31
     go_wp2_with fail
     have HX := Aside0.mk (HC32.out.put (L27.drop 2))
     clear hrc hrf HC32
     have HC32 := HX
     clear HX
     rw [ba_drop]
     refine (blanks_any g (L27.drop 2) hl32 _ HC32.out.rd).mono ?_
     rintro e w2 ⟨rfl, hr2, hg2⟩
     have HC33 := Aside0.mk (HC32.out.call hg2 hr2)
     clear hr2 hg2 HC32
     go_wp2_with fail
     refine end_any g (blanksL (L27.drop 2)) _ HC33.out.rd _ ?_ (fun hm => ⟨rfl, HN.out (step_no HT32.out (if_neg hm)) _ HC33.out.only⟩)
     intro hm
     have HT33 := Aside0.mk (step_ok HT32.out (if_pos hm))
     clear hm HT32
     have HF : CS w _ g (blanksL (L27.drop 2)) [x7, x5, x3, x9, x11, 0, 0] := HC33.out
     have hfin := Aside0.mk (HO.out _ _ _ _ _ _ _ HT33.out)
     obtain ⟨c0, f0⟩ := HF.cell 0
     obtain ⟨c1, f1⟩ := HF.cell 1
     obtain ⟨c2, f2⟩ := HF.cell 2
     obtain ⟨c3, f3⟩ := HF.cell 3
     obtain ⟨c4, f4⟩ := HF.cell 4
     obtain ⟨c5, f5⟩ := HF.cell 5
     obtain ⟨c6, f6⟩ := HF.cell 6
     obtain ⟨r0, g0⟩ := HF.rcell 0
     obtain ⟨r1, g1⟩ := HF.rcell 1
     obtain ⟨r2, g2⟩ := HF.rcell 2
     obtain ⟨r3, g3⟩ := HF.rcell 3
     obtain ⟨r4, g4⟩ := HF.rcell 4
     obtain ⟨r5, g5⟩ := HF.rcell 5
     obtain ⟨r6, g6⟩ := HF.rcell 6
     simp only [List.getD_cons_zero, List.getD_cons_succ] at c0 c1 c2 c3 c4 c5 c6
     have HFo := Aside0.mk HF.only
     clear HF HC33 HT33 HO HN
     go_wp2
     refine bodyPost_ret (v := .agg #[.int .i64 x7, .int .i64 x5, .int .i64 x3, .int .i64 x9, .int .i64 x11, .int .i64 0, .int .i64 0]) (by simp [results, Tryd.results18, go_sem, r0, r1, r2, r3, r4, r5, r6]) rfl (hfin.out _ ?_)
     exact only_seven HFo.out (Nat.le_refl _) _ _ _ _ _ _ _
    | false =>
     refine (strings_HasPrefix.calls _ _ false _ (by rw [hasPrefix_is, hp31])).mono ?_
     rintro e w1 ⟨rfl, ⟨⟨n34, rfl⟩⟩⟩
     have HC34 := Aside0.mk (HC31.out.drewN n34)
     have HT34 := HT31
     have hl34 := hl31
     have hq34 := hp31
     clear hp31 HC31 HT31 hl31
     generalize w2.drewN n34 = w2 at HC34 ⊢
     go_wp2_with fail
     have HT35 := Aside0.mk (show mailL l = (zoneL L27).bind _ from (HT34.out.trans (by rw [show mailZ L27 = zoneL L27 by unfold mailZ; rw [if_neg (by rw [hq31]; simp), if_neg (by rw [hq34]; simp)]])))
     have HC35 := HC34
     have hl35 := hl34
     clear HT34 HC34 hl34
     refine zone_any g L27 _ HC35.out.rd _ ?_ (fun hm w2 hg2 => ⟨rfl, HN.out (step_no HT35.out hm) w2 (only_trans HC35.out.only hg2)⟩)
     intro x36 L36 hm w2 hr2 hg2
     have HT36 := Aside0.mk (step_ok HT35.out hm)
     have HD36 := Aside0.mk (HC35.out.call hg2 hr2)
     have hl36 := Nat.le_trans (zone_len hm) hl35
     obtain ⟨hd1, hd2⟩ := HD36.out.cell 6
     have HC36 := Aside0.mk (HD36.out.set 6 x36)
     clear hm hr2 hg2 HT35 HC35 HD36 hl35
     go_wp2_with fail
     clear hd1 hd2
     refine (blanks_any g L36 hl36 _ HC36.out.rd).mono ?_
     rintro e w2 ⟨rfl, hr2, hg2⟩
     have HC37 := Aside0.mk (HC36.out.call hg2 hr2)
     clear hr2 hg2 HC36
     go_wp2_with fail
     refine end_any g (blanksL L36) _ HC37.out.rd _ ?_ (fun hm => ⟨rfl, HN.out (step_no HT36.out (if_neg hm)) _ HC37.out.only⟩)
     intro hm
     have HT37 := Aside0.mk (step_ok HT36.out (if_pos hm))
     clear hm HT36
     have HF : CS w _ g (blanksL L36) [x7, x5, x3, x9, x11, 0, x36] := HC37.out
     have hfin := Aside0.mk (HO.out _ _ _ _ _ _ _ HT37.out)
     obtain ⟨c0, f0⟩ := HF.cell 0
     obtain ⟨c1, f1⟩ := HF.cell 1
     obtain ⟨c2, f2⟩ := HF.cell 2
     obtain ⟨c3, f3⟩ := HF.cell 3
     obtain ⟨c4, f4⟩ := HF.cell 4
     obtain ⟨c5, f5⟩ := HF.cell 5
     obtain ⟨c6, f6⟩ := HF.cell 6
     obtain ⟨r0, g0⟩ := HF.rcell 0
     obtain ⟨r1, g1⟩ := HF.rcell 1
     obtain ⟨r2, g2⟩ := HF.rcell 2
     obtain ⟨r3, g3⟩ := HF.rcell 3
     obtain ⟨r4, g4⟩ := HF.rcell 4
     obtain ⟨r5, g5⟩ := HF.rcell 5
     obtain ⟨r6, g6⟩ := HF.rcell 6
     simp only [List.getD_cons_zero, List.getD_cons_succ] at c0 c1 c2 c3 c4 c5 c6
     have HFo := Aside0.mk HF.only
     clear HF HC37 HT37 HO HN
     go_wp2
     refine bodyPost_ret (v := .agg #[.int .i64 x7, .int .i64 x5, .int .i64 x3, .int .i64 x9, .int .i64 x11, .int .i64 0, .int .i64 x36]) (by simp [results, Tryd.results18, go_sem, r0, r1, r2, r3, r4, r5, r6]) rfl (hfin.out _ ?_)
     exact only_seven HFo.out (Nat.le_refl _) _ _ _ _ _ _ _
 ·
  intro hj w2 hr2 hg2
  have HT0 := Aside0.mk (show mailL l = mailT (blanksL l) by unfold mailL; rw [hj])
  have HT1 := Aside0.mk (HT0.out.trans (show mailT (blanksL l) = (numberL 1 2 (blanksL l)).bind _ from rfl))
  clear HT0
  have HT0 := HT1
  have HC0 := Aside0.mk (HE.out.call hg2 hr2)
  clear HT1 hj hr2 hg2 HE
  go_wp2_with fail
  refine number12 g (blanksL l) _ HC0.out.rd _ ?_ (fun hm w2 hg2 => ⟨rfl, HN.out (step_no HT0.out hm) w2 (only_trans HC0.out.only hg2)⟩)
  intro x38 L38 hm w2 hr2 hg2
  have HT38 := Aside0.mk (step_ok HT0.out hm)
  have HD38 := Aside0.mk (HC0.out.call hg2 hr2)
  have hl38 := Nat.le_trans (number_len hm) hl0
  obtain ⟨hd1, hd2⟩ := HD38.out.cell 2
  have HC38 := Aside0.mk (HD38.out.set 2 x38)
  clear hm hr2 hg2 HT0 HC0 HD38 hl0
  go_wp2_with fail
  clear hd1 hd2
  refine gap_any g L38 hl38 _ HC38.out.rd _ ?_ (fun hm w2 hg2 => ⟨rfl, HN.out (step_no HT38.out hm) w2 (only_trans HC38.out.only hg2)⟩)
  intro L39 hm w2 hr2 hg2
  have HT39 := Aside0.mk (step_ok HT38.out hm)
  have HC39 := Aside0.mk (HC38.out.call hg2 hr2)
  have hl39 := Nat.le_trans (gap_len hm) hl38
  clear hm hr2 hg2 HT38 HC38 hl38
  go_wp2_with fail
  refine month_m g L39 hl39 _ HC39.out.rd _ ?_ (fun hm w2 hg2 => ⟨rfl, HN.out (step_no HT39.out hm) w2 (only_trans HC39.out.only hg2)⟩)
  intro x40 L40 hm w2 hr2 hg2
  have HT40 := Aside0.mk (step_ok HT39.out hm)
  have HD40 := Aside0.mk (HC39.out.call hg2 hr2)
  have hl40 := Nat.le_trans (month_len hm) hl39
  obtain ⟨hd1, hd2⟩ := HD40.out.cell 1
  have HC40 := Aside0.mk (HD40.out.set 1 x40)
  clear hm hr2 hg2 HT39 HC39 HD40 hl39
  go_wp2_with fail
  clear hd1 hd2
  refine gap_any g L40 hl40 _ HC40.out.rd _ ?_ (fun hm w2 hg2 => ⟨rfl, HN.out (step_no HT40.out hm) w2 (only_trans HC40.out.only hg2)⟩)
  intro L41 hm w2 hr2 hg2
  have HT41 := Aside0.mk (step_ok HT40.out hm)
  have HC41 := Aside0.mk (HC40.out.call hg2 hr2)
  have hl41 := Nat.le_trans (gap_len hm) hl40
  clear hm hr2 hg2 HT40 HC40 hl40
  go_wp2_with fail
  refine number44 g L41 _ HC41.out.rd _ ?_ (fun hm w2 hg2 => ⟨rfl, HN.out (step_no HT41.out hm) w2 (only_trans HC41.out.only hg2)⟩)
  intro x42 L42 hm w2 hr2 hg2
  have HT42 := Aside0.mk (step_ok HT41.out hm)
  have HD42 := Aside0.mk (HC41.out.call hg2 hr2)
  have hl42 := Nat.le_trans (number_len hm) hl41
  obtain ⟨hd1, hd2⟩ := HD42.out.cell 0
  have HC42 := Aside0.mk (HD42.out.set 0 x42)
  clear hm hr2 hg2 HT41 HC41 HD42 hl41
  go_wp2_with fail
  clear hd1 hd2
  refine gap_any g L42 hl42 _ HC42.out.rd _ ?_ (fun hm w2 hg2 => ⟨rfl, HN.out (step_no HT42.out hm) w2 (only_trans HC42.out.only hg2)⟩)
  intro L43 hm w2 hr2 hg2
  have HT43 := Aside0.mk (step_ok HT42.out hm)
  have HC43 := Aside0.mk (HC42.out.call hg2 hr2)
  have hl43 := Nat.le_trans (gap_len hm) hl42
  clear hm hr2 hg2 HT42 HC42 hl42
  go_wp2_with fail
  refine number22 g L43 _ HC43.out.rd _ ?_ (fun hm w2 hg2 => ⟨rfl, HN.out (step_no HT43.out hm) w2 (only_trans HC43.out.only hg2)⟩)
  intro x44 L44 hm w2 hr2 hg2
  have HT44 := Aside0.mk (step_ok HT43.out hm)
  have HD44 := Aside0.mk (HC43.out.call hg2 hr2)
  have hl44 := Nat.le_trans (number_len hm) hl43
  obtain ⟨hd1, hd2⟩ := HD44.out.cell 3
  have HC44 := Aside0.mk (HD44.out.set 3 x44)
  clear hm hr2 hg2 HT43 HC43 HD44 hl43
  go_wp2_with fail
  clear hd1 hd2
  refine must_any g [58] L44 _ HC44.out.rd _ ?_ (fun hm w2 hg2 => ⟨rfl, HN.out (step_no HT44.out hm) w2 (only_trans HC44.out.only hg2)⟩)
  intro L45 hm w2 hr2 hg2
  have HT45 := Aside0.mk (step_ok HT44.out hm)
  have HC45 := Aside0.mk (HC44.out.call hg2 hr2)
  have hl45 := Nat.le_trans (must_len hm) hl44
  clear hm hr2 hg2 HT44 HC44 hl44
  go_wp2_with fail
  refine number22 g L45 _ HC45.out.rd _ ?_ (fun hm w2 hg2 => ⟨rfl, HN.out (step_no HT45.out hm) w2 (only_trans HC45.out.only hg2)⟩)
  intro x46 L46 hm w2 hr2 hg2
  have HT46 := Aside0.mk (step_ok HT45.out hm)
  have HD46 := Aside0.mk (HC45.out.call hg2 hr2)
  have hl46 := Nat.le_trans (number_len hm) hl45
  obtain ⟨hd1, hd2⟩ := HD46.out.cell 4
  have HC46 := Aside0.mk (HD46.out.set 4 x46)
  clear hm hr2 hg2 HT45 HC45 HD46 hl45
  have hrc := HC46.out.rd.cell
  go_wp2_with fail
  clear hd1 hd2 hrc
  cases hp46 : [58].isPrefixOf L46 with
  | true =>
   refine (strings_HasPrefix.calls _ _ true _ (by rw [hasPrefix_is, hp46])).mono ?_
   rintro e w1 ⟨rfl, ⟨⟨n47, rfl⟩⟩⟩
   have HC47 := Aside0.mk (HC46.out.drewN n47)
   have HT47 := Aside0.mk (show mailL l = (mustL [58] L46).bind fun l1 => (numberL 2 2 l1).bind _ from HT46.out.trans (by rw [show mailS L46 = (mustL [58] L46).bind fun l1 => numberL 2 2 l1 by unfold mailS; rw [if_pos hp46]]; rw [Option.bind_assoc]))
   have hl47 := hl46
   clear hp46 HC46 HT46 hl46
   go_wp2_with fail
   refine must_any g [58] L46 _ HC47.out.rd _ ?_ (fun hm w2 hg2 => ⟨rfl, HN.out (step_no HT47.out hm) w2 (only_trans HC47.out.only hg2)⟩)
   intro L48 hm w2 hr2 hg2
   have HT48 := Aside0.mk (step_ok HT47.out hm)
   have HC48 := Aside0.mk (HC47.out.call hg2 hr2)
   have hl48 := Nat.le_trans (must_len hm) hl47
   clear hm hr2 hg2 HT47 HC47 hl47
   go_wp2_with fail
   refine number22 g L48 _ HC48.out.rd _ ?_ (fun hm w2 hg2 => ⟨rfl, HN.out (step_no HT48.out hm) w2 (only_trans HC48.out.only hg2)⟩)
   intro x49 L49 hm w2 hr2 hg2
   have HT49 := Aside0.mk (step_ok HT48.out hm)
   have HD49 := Aside0.mk (HC48.out.call hg2 hr2)
   have hl49 := Nat.le_trans (number_len hm) hl48
   obtain ⟨hd1, hd2⟩ := HD49.out.cell 5
   have HC49 := Aside0.mk (HD49.out.set 5 x49)
   clear hm hr2 hg2 HT48 HC48 HD49 hl48
   go_wp2_with fail
   clear hd1 hd2
   refine gap_any g L49 hl49 _ HC49.out.rd _ ?_ (fun hm w2 hg2 => ⟨rfl, HN.out (step_no HT49.out hm) w2 (only_trans HC49.out.only hg2)⟩)
   intro L50 hm w2 hr2 hg2
   have HT50 := Aside0.mk (step_ok HT49.out hm)
   have HC50 := Aside0.mk (HC49.out.call hg2 hr2)
   have hl50 := Nat.le_trans (gap_len hm) hl49
   clear hm hr2 hg2 HT49 HC49 hl49
   have hrc := HC50.out.rd.cell
   go_wp2_with fail
   clear hrc
   refine (lower_any ⟨L50.toArray⟩ _ hl50).mono ?_
   rintro e w2 ⟨rfl, hb2⟩
   have HC51 := Aside0.mk (HC50.out.below hb2)
   have HT51 := HT50
   have hl51 := hl50
   clear hb2 HC50 HT50 hl50
   have hlow : lowB ⟨L50.toArray⟩ = ⟨(lowL L50).toArray⟩ := rfl
   rw [hlow]
   clear hlow
   go_wp2_with fail
   cases hp51 : [103, 109, 116].isPrefixOf (lowL L50) with
   | true =>
    refine (strings_HasPrefix.calls _ _ true _ (by rw [hasPrefix_is, hp51])).mono ?_
    rintro e w1 ⟨rfl, ⟨⟨n52, rfl⟩⟩⟩
    have hrd := HC51.out.rd.drewN n52
    have hrc := hrd.cell
    have hrf := hrd.frozen
    have hlen := prefix_le hp51
    have HC52 := Aside0.mk (HC51.out.drewN n52)
    have HT52 := Aside0.mk (step_ok HT51.out (show mailZ L50 = some (0, L50.drop 3) by unfold mailZ; rw [if_pos hp51]))
    have hl52 : (L50.drop 3).length ≤ 9223372036854775807 := by rw [List.length_drop]; omega
    rw [lowL, List.length_map] at hlen
    simp only [List.length_cons, List.length_nil] at hlen
    clear hrd HT51 hl51
    go_wp2_with fail
    have HX := Aside0.mk (HC52.out.put (L50.drop 3))
    clear hrc hrf HC52
    have HC52 := HX
    clear HX
    rw [ba_drop]
    refine (blanks_any g (L50.drop 3) hl52 _ HC52.out.rd).mono ?_
    rintro e w2 ⟨rfl, hr2, hg2⟩
    have HC53 := Aside0.mk (HC52.out.call hg2 hr2)
    clear hr2 hg2 HC52
    go_wp2_with fail
    refine end_any g (blanksL (L50.drop 3)) _ HC53.out.rd _ ?_ (fun hm => ⟨rfl, HN.out (step_no HT52.out (if_neg hm)) _ HC53.out.only⟩)
    intro hm
    have HT53 := Aside0.mk (step_ok HT52.out (if_pos hm))
    clear hm HT52
    have HF : CS w _ g (blanksL (L50.drop 3)) [x42, x40, x38, x44, x46, x49, 0] := HC53.out
    have hfin := Aside0.mk (HO.out _ _ _ _ _ _ _ HT53.out)
    obtain ⟨c0, f0⟩ := HF.cell 0
    obtain ⟨c1, f1⟩ := HF.cell 1
    obtain ⟨c2, f2⟩ := HF.cell 2
    obtain ⟨c3, f3⟩ := HF.cell 3
    obtain ⟨c4, f4⟩ := HF.cell 4
    obtain ⟨c5, f5⟩ := HF.cell 5
    obtain ⟨c6, f6⟩ := HF.cell 6
    obtain ⟨r0, g0⟩ := HF.rcell 0
    obtain ⟨r1, g1⟩ := HF.rcell 1
    obtain ⟨r2, g2⟩ := HF.rcell 2
    obtain ⟨r3, g3⟩ := HF.rcell 3
    obtain ⟨r4, g4⟩ := HF.rcell 4
    obtain ⟨r5, g5⟩ := HF.rcell 5
    obtain ⟨r6, g6⟩ := HF.rcell 6
    simp only [List.getD_cons_zero, List.getD_cons_succ] at c0 c1 c2 c3 c4 c5 c6
    have HFo := Aside0.mk HF.only
    clear HF HC53 HT53 HO HN
    go_wp2
    refine bodyPost_ret (v := .agg #[.int .i64 x42, .int .i64 x40, .int .i64 x38, .int .i64 x44, .int .i64 x46, .int .i64 x49, .int .i64 0]) (by simp [results, Tryd.results18, go_sem, r0, r1, r2, r3, r4, r5, r6]) rfl (hfin.out _ ?_)
    exact only_seven HFo.out (Nat.le_refl _) _ _ _ _ _ _ _
   | false =>
    refine (strings_HasPrefix.calls _ _ false _ (by rw [hasPrefix_is, hp51])).mono ?_
    rintro e w1 ⟨rfl, ⟨⟨n54, rfl⟩⟩⟩
    have HC54 := Aside0.mk (HC51.out.drewN n54)
    have HT54 := HT51
    have hl54 := hl51
    have hq54 := hp51
    clear hp51 HC51 HT51 hl51
    generalize w2.drewN n54 = w2 at HC54 ⊢
    go_wp2_with fail
    cases hp54 : [117, 116].isPrefixOf (lowL L50) with
    | true =>
     refine (strings_HasPrefix.calls _ _ true _ (by rw [hasPrefix_is, hp54])).mono ?_
     rintro e w1 ⟨rfl, ⟨⟨n55, rfl⟩⟩⟩
     have hrd := HC54.out.rd.drewN n55
     have hrc := hrd.cell
     have hrf := hrd.frozen
     have hlen := prefix_le hp54
     have HC55 := Aside0.mk (HC54.out.drewN n55)
     have HT55 := Aside0.mk (step_ok HT54.out (show mailZ L50 = some (0, L50.drop 2) by unfold mailZ; rw [if_neg (by rw [hq54]; simp)]; rw [if_pos hp54]))
     have hl55 : (L50.drop 2).length ≤ 9223372036854775807 := by rw [List.length_drop]; omega
     rw [lowL, List.length_map] at hlen
     simp only [List.length_cons, List.length_nil] at hlen
     clear hrd HT54 hl54
     go_wp2_with fail
     have HX := Aside0.mk (HC55.out.put (L50.drop 2))
     clear hrc hrf HC55
     have HC55 := HX
     clear HX
     rw [ba_drop]
     refine (blanks_any g (L50.drop 2) hl55 _ HC55.out.rd).mono ?_
     rintro e w2 ⟨rfl, hr2, hg2⟩
     have HC56 := Aside0.mk (HC55.out.call hg2 hr2)
     clear hr2 hg2 HC55
     go_wp2_with fail
     refine end_any g (blanksL (L50.drop 2)) _ HC56.out.rd _ ?_ (fun hm => ⟨rfl, HN.out (step_no HT55.out (if_neg hm)) _ HC56.out.only⟩)
     intro hm
     have HT56 := Aside0.mk (step_ok HT55.out (if_pos hm))
     clear hm HT55
     have HF : CS w _ g (blanksL (L50.drop 2)) [x42, x40, x38, x44, x46, x49, 0] := HC56.out
     have hfin := Aside0.mk (HO.out _ _ _ _ _ _ _ HT56.out)
     obtain ⟨c0, f0⟩ := HF.cell 0
     obtain ⟨c1, f1⟩ := HF.cell 1
     obtain ⟨c2, f2⟩ := HF.cell 2
     obtain ⟨c3, f3⟩ := HF.cell 3
     obtain ⟨c4, f4⟩ := HF.cell 4
     obtain ⟨c5, f5⟩ := HF.cell 5
     obtain ⟨c6, f6⟩ := HF.cell 6
     obtain ⟨r0, g0⟩ := HF.rcell 0
     obtain ⟨r1, g1⟩ := HF.rcell 1
     obtain ⟨r2, g2⟩ := HF.rcell 2
     obtain ⟨r3, g3⟩ := HF.rcell 3
     obtain ⟨r4, g4⟩ := HF.rcell 4
     obtain ⟨r5, g5⟩ := HF.rcell 5
     obtain ⟨r6, g6⟩ := HF.rcell 6
     simp only [List.getD_cons_zero, List.getD_cons_succ] at c0 c1 c2 c3 c4 c5 c6
     have HFo := Aside0.mk HF.only
     clear HF HC56 HT56 HO HN
     go_wp2
     refine bodyPost_ret (v := .agg #[.int .i64 x42, .int .i64 x40, .int .i64 x38, .int .i64 x44, .int .i64 x46, .int .i64 x49, .int .i64 0]) (by simp [results, Tryd.results18, go_sem, r0, r1, r2, r3, r4, r5, r6]) rfl (hfin.out _ ?_)
     exact only_seven HFo.out (Nat.le_refl _) _ _ _ _ _ _ _
    | false =>
     refine (strings_HasPrefix.calls _ _ false _ (by rw [hasPrefix_is, hp54])).mono ?_
     rintro e w1 ⟨rfl, ⟨⟨n57, rfl⟩⟩⟩
     have HC57 := Aside0.mk (HC54.out.drewN n57)
     have HT57 := HT54
     have hl57 := hl54
     have hq57 := hp54
     clear hp54 HC54 HT54 hl54
     generalize w2.drewN n57 = w2 at HC57 ⊢
     go_wp2_with fail
     have HT58 := Aside0.mk (show mailL l = (zoneL L50).bind _ from (HT57.out.trans (by rw [show mailZ L50 = zoneL L50 by unfold mailZ; rw [if_neg (by rw [hq54]; simp), if_neg (by rw [hq57]; simp)]])))
     have HC58 := HC57
     have hl58 := hl57
     clear HT57 HC57 hl57
     refine zone_any g L50 _ HC58.out.rd _ ?_ (fun hm w2 hg2 => ⟨rfl, HN.out (step_no HT58.out hm) w2 (only_trans HC58.out.only hg2)⟩)
     intro x59 L59 hm w2 hr2 hg2
     have HT59 := Aside0.mk (step_ok HT58.out hm)
     have HD59 := Aside0.mk (HC58.out.call hg2 hr2)
     have hl59 := Nat.le_trans (zone_len hm) hl58
     obtain ⟨hd1, hd2⟩ := HD59.out.cell 6
     have HC59 := Aside0.mk (HD59.out.set 6 x59)
     clear hm hr2 hg2 HT58 HC58 HD59 hl58
     go_wp2_with fail
     clear hd1 hd2
     refine (blanks_any g L59 hl59 _ HC59.out.rd).mono ?_
     rintro e w2 ⟨rfl, hr2, hg2⟩
     have HC60 := Aside0.mk (HC59.out.call hg2 hr2)
     clear hr2 hg2 HC59
     go_wp2_with fail
     refine end_any g (blanksL L59) _ HC60.out.rd _ ?_ (fun hm => ⟨rfl, HN.out (step_no HT59.out (if_neg hm)) _ HC60.out.only⟩)
     intro hm
     have HT60 := Aside0.mk (step_ok HT59.out (if_pos hm))
     clear hm HT59
     have HF : CS w _ g (blanksL L59) [x42, x40, x38, x44, x46, x49, x59] := HC60.out
     have hfin := Aside0.mk (HO.out _ _ _ _ _ _ _ HT60.out)
     obtain ⟨c0, f0⟩ := HF.cell 0
     obtain ⟨c1, f1⟩ := HF.cell 1
     obtain ⟨c2, f2⟩ := HF.cell 2
     obtain ⟨c3, f3⟩ := HF.cell 3
     obtain ⟨c4, f4⟩ := HF.cell 4
     obtain ⟨c5, f5⟩ := HF.cell 5
     obtain ⟨c6, f6⟩ := HF.cell 6
     obtain ⟨r0, g0⟩ := HF.rcell 0
     obtain ⟨r1, g1⟩ := HF.rcell 1
     obtain ⟨r2, g2⟩ := HF.rcell 2
     obtain ⟨r3, g3⟩ := HF.rcell 3
     obtain ⟨r4, g4⟩ := HF.rcell 4
     obtain ⟨r5, g5⟩ := HF.rcell 5
     obtain ⟨r6, g6⟩ := HF.rcell 6
     simp only [List.getD_cons_zero, List.getD_cons_succ] at c0 c1 c2 c3 c4 c5 c6
     have HFo := Aside0.mk HF.only
     clear HF HC60 HT60 HO HN
     go_wp2
     refine bodyPost_ret (v := .agg #[.int .i64 x42, .int .i64 x40, .int .i64 x38, .int .i64 x44, .int .i64 x46, .int .i64 x49, .int .i64 x59]) (by simp [results, Tryd.results18, go_sem, r0, r1, r2, r3, r4, r5, r6]) rfl (hfin.out _ ?_)
     exact only_seven HFo.out (Nat.le_refl _) _ _ _ _ _ _ _
  | false =>
   refine (strings_HasPrefix.calls _ _ false _ (by rw [hasPrefix_is, hp46])).mono ?_
   rintro e w1 ⟨rfl, ⟨⟨n61, rfl⟩⟩⟩
   have HC61 := Aside0.mk (HC46.out.drewN n61)
   have HT61 := Aside0.mk (step_ok HT46.out (show mailS L46 = some (0, L46) by unfold mailS; rw [if_neg (by rw [hp46]; simp)]))
   have hl61 := hl46
   clear hp46 HC46 HT46 hl46
   go_wp2_with fail
   refine gap_any g L46 hl61 _ HC61.out.rd _ ?_ (fun hm w2 hg2 => ⟨rfl, HN.out (step_no HT61.out hm) w2 (only_trans HC61.out.only hg2)⟩)
   intro L62 hm w2 hr2 hg2
   have HT62 := Aside0.mk (step_ok HT61.out hm)
   have HC62 := Aside0.mk (HC61.out.call hg2 hr2)
   have hl62 := Nat.le_trans (gap_len hm) hl61
   clear hm hr2 hg2 HT61 HC61 hl61
   have hrc := HC62.out.rd.cell
   go_wp2_with fail
   clear hrc
   refine (lower_any ⟨L62.toArray⟩ _ hl62).mono ?_
   rintro e w2 ⟨rfl, hb2⟩
   have HC63 := Aside0.mk (HC62.out.below hb2)
   have HT63 := HT62
   have hl63 := hl62
   clear hb2 HC62 HT62 hl62
   have hlow : lowB ⟨L62.toArray⟩ = ⟨(lowL L62).toArray⟩ := rfl
   rw [hlow]
   clear hlow
   go_wp2_with fail
   cases hp63 : [103, 109, 116].isPrefixOf (lowL L62) with
   | true =>
    refine (strings_HasPrefix.calls _ _ true _ (by rw [hasPrefix_is, hp63])).mono ?_
    rintro e w1 ⟨rfl, ⟨⟨n64, rfl⟩⟩⟩
    have hrd := HC63.out.rd.drewN n64
    have hrc := hrd.cell
    have hrf := hrd.frozen
    have hlen := prefix_le hp63
    have HC64 := Aside0.mk (HC63.out.drewN n64)
    have HT64 := Aside0.mk (step_ok HT63.out (show mailZ L62 = some (0, L62.drop 3) by unfold mailZ; rw [if_pos hp63]))
    have hl64 : (L62.drop 3).length ≤ 9223372036854775807 := by rw [List.length_drop]; omega
    rw [lowL, List.length_map] at hlen
    simp only [List.length_cons, List.length_nil] at hlen
    clear hrd HT63 hl63
    go_wp2_with fail
    have HX := Aside0.mk (HC64.out.put (L62.drop 3))
    clear hrc hrf HC64
    have HC64 := HX
    clear HX
    rw [ba_drop]
    refine (blanks_any g (L62.drop 3) hl64 _ HC64.out.rd).mono ?_
    rintro e w2 ⟨rfl, hr2, hg2⟩
    have HC65 := Aside0.mk (HC64.out.call hg2 hr2)
    clear hr2 hg2 HC64
    go_wp2_with fail
    refine end_any g (blanksL (L62.drop 3)) _ HC65.out.rd _ ?_ (fun hm => ⟨rfl, HN.out (step_no HT64.out (if_neg hm)) _ HC65.out.only⟩)
    intro hm
    have HT65 := Aside0.mk (step_ok HT64.out (if_pos hm))
    clear hm HT64
    have HF : CS w _ g (blanksL (L62.drop 3)) [x42, x40, x38, x44, x46, 0, 0] := HC65.out
    have hfin := Aside0.mk (HO.out _ _ _ _ _ _ _ HT65.out)
    obtain ⟨c0, f0⟩ := HF.cell 0
    obtain ⟨c1, f1⟩ := HF.cell 1
    obtain ⟨c2, f2⟩ := HF.cell 2
    obtain ⟨c3, f3⟩ := HF.cell 3
    obtain ⟨c4, f4⟩ := HF.cell 4
    obtain ⟨c5, f5⟩ := HF.cell 5
    obtain ⟨c6, f6⟩ := HF.cell 6
    obtain ⟨r0, g0⟩ := HF.rcell 0
    obtain ⟨r1, g1⟩ := HF.rcell 1
    obtain ⟨r2, g2⟩ := HF.rcell 2
    obtain ⟨r3, g3⟩ := HF.rcell 3
    obtain ⟨r4, g4⟩ := HF.rcell 4
    obtain ⟨r5, g5⟩ := HF.rcell 5
    obtain ⟨r6, g6⟩ := HF.rcell 6
    simp only [List.getD_cons_zero, List.getD_cons_succ] at c0 c1 c2 c3 c4 c5 c6
    have HFo := Aside0.mk HF.only
    clear HF HC65 HT65 HO HN
    go_wp2
    refine bodyPost_ret (v := .agg #[.int .i64 x42, .int .i64 x40, .int .i64 x38, .int .i64 x44, .int .i64 x46, .int .i64 0, .int .i64 0]) (by simp [results, Tryd.results18, go_sem, r0, r1, r2, r3, r4, r5, r6]) rfl (hfin.out _ ?_)
    exact only_seven HFo.out (Nat.le_refl _) _ _ _ _ _ _ _
   | false =>
    refine (strings_HasPrefix.calls _ _ false _ (by rw [hasPrefix_is, hp63])).mono ?_
    rintro e w1 ⟨rfl, ⟨⟨n66, rfl⟩⟩⟩
    have HC66 := Aside0.mk (HC63.out.drewN n66)
    have HT66 := HT63
    have hl66 := hl63
    have hq66 := hp63
    clear hp63 HC63 HT63 hl63
    generalize w2.drewN n66 = w2 at HC66 ⊢
    go_wp2_with fail
    cases hp66 : [117, 116].isPrefixOf (lowL L62) with
    | true =>
     refine (strings_HasPrefix.calls _ _ true _ (by rw [hasPrefix_is, hp66])).mono ?_
     rintro e w1 ⟨rfl, ⟨⟨n67, rfl⟩⟩⟩
     have hrd := HC66.out.rd.drewN n67
     have hrc := hrd.cell
     have hrf := hrd.frozen
     have hlen := prefix_le hp66
     have HC67 := Aside0.mk (HC66.out.drewN n67)
     have HT67 := Aside0.mk (step_ok HT66.out (show mailZ L62 = some (0, L62.drop 2) by unfold mailZ; rw [if_neg (by rw [hq66]; simp)]; rw [if_pos hp66]))
     have hl67 : (L62.drop 2).length ≤ 9223372036854775807 := by rw [List.length_drop]; omega
     rw [lowL, List.length_map] at hlen
     simp only [List.length_cons, List.length_nil] at hlen
     clear hrd HT66 hl66
     go_wp2_with fail
     have HX := Aside0.mk (HC67.out.put (L62.drop 2))
     clear hrc hrf HC67
     have HC67 := HX
     clear HX
     rw [ba_drop]
     refine (blanks_any g (L62.drop 2) hl67 _ HC67.out.rd).mono ?_
     rintro e w2 ⟨rfl, hr2, hg2⟩
     have HC68 := Aside0.mk (HC67.out.call hg2 hr2)
     clear hr2 hg2 HC67
     go_wp2_with fail
     refine end_any g (blanksL (L62.drop 2)) _ HC68.out.rd _ ?_ (fun hm => ⟨rfl, HN.out (step_no HT67.out (if_neg hm)) _ HC68.out.only⟩)
     intro hm
     have HT68 := Aside0.mk (step_ok HT67.out (if_pos hm))
     clear hm HT67
     have HF : CS w _ g (blanksL (L62.drop 2)) [x42, x40, x38, x44, x46, 0, 0] := HC68.out
     have hfin := Aside0.mk (HO.out _ _ _ _ _ _ _ HT68.out)
     obtain ⟨c0, f0⟩ := HF.cell 0
     obtain ⟨c1, f1⟩ := HF.cell 1
     obtain ⟨c2, f2⟩ := HF.cell 2
     obtain ⟨c3, f3⟩ := HF.cell 3
     obtain ⟨c4, f4⟩ := HF.cell 4
     obtain ⟨c5, f5⟩ := HF.cell 5
     obtain ⟨c6, f6⟩ := HF.cell 6
     obtain ⟨r0, g0⟩ := HF.rcell 0
     obtain ⟨r1, g1⟩ := HF.rcell 1
     obtain ⟨r2, g2⟩ := HF.rcell 2
     obtain ⟨r3, g3⟩ := HF.rcell 3
     obtain ⟨r4, g4⟩ := HF.rcell 4
     obtain ⟨r5, g5⟩ := HF.rcell 5
     obtain ⟨r6, g6⟩ := HF.rcell 6
     simp only [List.getD_cons_zero, List.getD_cons_succ] at c0 c1 c2 c3 c4 c5 c6
     have HFo := Aside0.mk HF.only
     clear HF HC68 HT68 HO HN
     go_wp2
     refine bodyPost_ret (v := .agg #[.int .i64 x42, .int .i64 x40, .int .i64 x38, .int .i64 x44, .int .i64 x46, .int .i64 0, .int .i64 0]) (by simp [results, Tryd.results18, go_sem, r0, r1, r2, r3, r4, r5, r6]) rfl (hfin.out _ ?_)
     exact only_seven HFo.out (Nat.le_refl _) _ _ _ _ _ _ _
    | false =>
     refine (strings_HasPrefix.calls _ _ false _ (by rw [hasPrefix_is, hp66])).mono ?_
     rintro e w1 ⟨rfl, ⟨⟨n69, rfl⟩⟩⟩
     have HC69 := Aside0.mk (HC66.out.drewN n69)
     have HT69 := HT66
     have hl69 := hl66
     have hq69 := hp66
     clear hp66 HC66 HT66 hl66
     generalize w2.drewN n69 = w2 at HC69 ⊢
     go_wp2_with fail
     have HT70 := Aside0.mk (show mailL l = (zoneL L62).bind _ from (HT69.out.trans (by rw [show mailZ L62 = zoneL L62 by unfold mailZ; rw [if_neg (by rw [hq66]; simp), if_neg (by rw [hq69]; simp)]])))
     have HC70 := HC69
     have hl70 := hl69
     clear HT69 HC69 hl69
     refine zone_any g L62 _ HC70.out.rd _ ?_ (fun hm w2 hg2 => ⟨rfl, HN.out (step_no HT70.out hm) w2 (only_trans HC70.out.only hg2)⟩)
     intro x71 L71 hm w2 hr2 hg2
     have HT71 := Aside0.mk (step_ok HT70.out hm)
     have HD71 := Aside0.mk (HC70.out.call hg2 hr2)
     have hl71 := Nat.le_trans (zone_len hm) hl70
     obtain ⟨hd1, hd2⟩ := HD71.out.cell 6
     have HC71 := Aside0.mk (HD71.out.set 6 x71)
     clear hm hr2 hg2 HT70 HC70 HD71 hl70
     go_wp2_with fail
     clear hd1 hd2
     refine (blanks_any g L71 hl71 _ HC71.out.rd).mono ?_
     rintro e w2 ⟨rfl, hr2, hg2⟩
     have HC72 := Aside0.mk (HC71.out.call hg2 hr2)
     clear hr2 hg2 HC71
     go_wp2_with fail
     refine end_any g (blanksL L71) _ HC72.out.rd _ ?_ (fun hm => ⟨rfl, HN.out (step_no HT71.out (if_neg hm)) _ HC72.out.only⟩)
     intro hm
     have HT72 := Aside0.mk (step_ok HT71.out (if_pos hm))
     clear hm HT71
     have HF : CS w _ g (blanksL L71) [x42, x40, x38, x44, x46, 0, x71] := HC72.out
     have hfin := Aside0.mk (HO.out _ _ _ _ _ _ _ HT72.out)
     obtain ⟨c0, f0⟩ := HF.cell 0
     obtain ⟨c1, f1⟩ := HF.cell 1
     obtain ⟨c2, f2⟩ := HF.cell 2
     obtain ⟨c3, f3⟩ := HF.cell 3
     obtain ⟨c4, f4⟩ := HF.cell 4
     obtain ⟨c5, f5⟩ := HF.cell 5
     obtain ⟨c6, f6⟩ := HF.cell 6
     obtain ⟨r0, g0⟩ := HF.rcell 0
     obtain ⟨r1, g1⟩ := HF.rcell 1
     obtain ⟨r2, g2⟩ := HF.rcell 2
     obtain ⟨r3, g3⟩ := HF.rcell 3
     obtain ⟨r4, g4⟩ := HF.rcell 4
     obtain ⟨r5, g5⟩ := HF.rcell 5
     obtain ⟨r6, g6⟩ := HF.rcell 6
     simp only [List.getD_cons_zero, List.getD_cons_succ] at c0 c1 c2 c3 c4 c5 c6
     have HFo := Aside0.mk HF.only
     clear HF HC72 HT72 HO HN
     go_wp2
     refine bodyPost_ret (v := .agg #[.int .i64 x42, .int .i64 x40, .int .i64 x38, .int .i64 x44, .int .i64 x46, .int .i64 0, .int .i64 x71]) (by simp [results, Tryd.results18, go_sem, r0, r1, r2, r3, r4, r5, r6]) rfl (hfin.out _ ?_)
     exact only_seven HFo.out (Nat.le_refl _) _ _ _ _ _ _ _
theorem catch_idle (p q : Addr) (w : World) :
  CallsD Tryd.prog 47 #[.pointer (some p), .pointer (some q)] .returning w fun e u' w' => e = .returned (.tuple #[]) ∧ u' = .returning ∧ w' = w := by
 refine callsD_of_wpS Tryd.func47 rfl fun c₀ cs hu => ?_
 have hT : ∀ a b : Value, (#[a, b] ++ Array.replicate (Tryd.f47.ntmps - (#[a, b] : Array Value).size) undef : Array Value) = #[a, b, undef, undef, undef, undef, undef, undef, undef, undef, undef, undef, undef, undef, undef, undef, undef] := by intro a b; rw [Tryd.ntmps47]; rfl
 rw [hT]
 clear hT
 apply wpS_seq
 apply wpS_region
 simp [wpOpsS, go_sem, recoverD, hu, Exit.thenS]
 refine wpS_of_wp ?_
 go_wp2
 cases c₀
 simp_all [bodyPostS, results, Tryd.results47]
/-- The result's two variables: a date's block, an error's. -/
structure DE (w : World) (b : Nat) (vs : List Int) (e : Int) : Prop where
 d : w.heap[b]? = some (.cells (vs.map (Value.int .i64)).toArray 24 (0, 0))
 e : w.heap[b + 1]? = some (.cells #[.int .i64 e] 25 (0, 0))
 len : vs.length = 7
theorem DE.dcell {w : World} {b : Nat} {vs : List Int} {e : Int} (h : DE w b vs e) (i : Nat) (hi : i < 7 := by omega) : w.cell? ⟨b, i, none⟩ = some (.int .i64 (vs.getD i 0)) ∧ w.frozen? ⟨b, i, none⟩ = false := by
 have hn := h.d
 have hl := h.len
 refine ⟨?_, by simp [World.frozen?, hn]⟩
 have hi' : i < vs.length := by omega
 simp [World.cell?, hn, List.getD_eq_getElem?_getD, hi']
theorem DE.ecell {w : World} {b : Nat} {vs : List Int} {e : Int} (h : DE w b vs e) : w.cell? ⟨b + 1, 0, none⟩ = some (.int .i64 e) ∧ w.frozen? ⟨b + 1, 0, none⟩ = false := by
 have hn := h.e
 exact ⟨by simp [World.cell?, hn], by simp [World.frozen?, hn]⟩
theorem DE.lt {w : World} {b : Nat} {vs : List Int} {e : Int} (h : DE w b vs e) : b + 1 < w.heap.size := (Array.getElem?_eq_some_iff.1 h.e).1
theorem DE.alloc {w : World} {b : Nat} {vs : List Int} {e : Int} (h : DE w b vs e) (o : Obj) : DE (w.alloc o) b vs e :=
 ⟨(Below.heap_alloc w o b (by have := h.lt; omega)).trans h.d, (Below.heap_alloc w o _ h.lt).trans h.e, h.len⟩
theorem DE.drewN {w : World} {b : Nat} {vs : List Int} {e : Int} (h : DE w b vs e) (n : Nat) : DE (w.drewN n) b vs e := ⟨h.d, h.e, h.len⟩
theorem DE.below {w w' : World} {b B : Nat} {vs : List Int} {e : Int} (h : DE w b vs e) (hb : Below B w w') (hB : b + 1 < B) : DE w' b vs e :=
 ⟨(hb.block b (by omega)).trans h.d, (hb.block _ hB).trans h.e, h.len⟩
theorem DE.grown {w w' : World} {b g : Nat} {vs : List Int} {e : Int} (h : DE w b vs e) (hg : w.grownBy w' (some g)) (hb : b + 1 < g) : DE w' b vs e :=
 ⟨(hg.block b (by have := h.lt; omega) (by simp; omega)).trans h.d, (hg.block _ h.lt (by simp; omega)).trans h.e, h.len⟩
theorem DE.setE {w : World} {b : Nat} {vs : List Int} {e : Int} (h : DE w b vs e) (x : Int) : DE (w.setCell ⟨b + 1, 0, none⟩ (.int .i64 x)) b vs x := by
 have hn := h.e
 refine ⟨(Below.heap_setCell _ _ _ _ (by simp)).trans h.d, ?_, h.len⟩
 simp [World.setCell, Array.getElem?_modify, hn]
theorem DE.setD {w : World} {b : Nat} {vs : List Int} {e : Int} (h : DE w b vs e) (i : Nat) (x : Int) : DE (w.setCell ⟨b, i, none⟩ (.int .i64 x)) b (vs.set i x) e := by
 have hn := h.d
 refine ⟨?_, (Below.heap_setCell _ _ _ _ (by simp)).trans h.e, by simp [h.len]⟩
 simp [World.setCell, Array.getElem?_modify, hn, List.map_set]
def setSeven (w : World) (b : Nat) (v0 v1 v2 v3 v4 v5 v6 : Value) : World := ((((((w.setCell ⟨b, 0, none⟩ v0).setCell ⟨b, 1, none⟩ v1).setCell ⟨b, 2, none⟩ v2).setCell ⟨b, 3, none⟩ v3).setCell ⟨b, 4, none⟩ v4).setCell ⟨b, 5, none⟩ v5).setCell ⟨b, 6, none⟩ v6
theorem DE.seven {w : World} {b : Nat} {vs : List Int} {e : Int} (h : DE w b vs e) (x0 x1 x2 x3 x4 x5 x6 : Int) : DE (setSeven w b (.int .i64 x0) (.int .i64 x1) (.int .i64 x2) (.int .i64 x3) (.int .i64 x4) (.int .i64 x5) (.int .i64 x6)) b [x0, x1, x2, x3, x4, x5, x6] e := by
 have h7 := ((((((h.setD 0 x0).setD 1 x1).setD 2 x2).setD 3 x3).setD 4 x4).setD 5 x5).setD 6 x6
 have hl := h.len
 match vs, hl with
 | [_, _, _, _, _, _, _], _ => exact h7
theorem below_seven {B : Nat} {a w : World} {b : Nat} (h : Below B a w) (hb : B ≤ b) (v0 v1 v2 v3 v4 v5 v6 : Value) : Below B a (setSeven w b v0 v1 v2 v3 v4 v5 v6) :=
 (((((((h.setCell hb _).setCell hb _).setCell hb _).setCell hb _).setCell hb _).setCell hb _).setCell hb _)
set_option maxHeartbeats 1000000 in
set_option maxRecDepth 100000 in
theorem catch_fault (b : Nat) (vs : List Int) (e0 : Int) (w : World) (h : DE w b vs e0) :
  CallsD Tryd.prog 47 #[.pointer (some ⟨b, 0, none⟩), .pointer (some ⟨b + 1, 0, none⟩)] (.panicking faultV) w fun e u' w' =>
   e = .returned (.tuple #[]) ∧ u' = .panicking [{ v := .iface 68 (.agg #[]), recovered := true }] ∧ DE w' b [0, 0, 0, 0, 0, 0, 0] 11 ∧ (∀ B, B ≤ b → Below B w w') := by
 have h1 := h.alloc (.cells #[] 68)
 obtain ⟨c0, f0⟩ := h1.dcell 0
 obtain ⟨c1, f1⟩ := h1.dcell 1
 obtain ⟨c2, f2⟩ := h1.dcell 2
 obtain ⟨c3, f3⟩ := h1.dcell 3
 obtain ⟨c4, f4⟩ := h1.dcell 4
 obtain ⟨c5, f5⟩ := h1.dcell 5
 obtain ⟨c6, f6⟩ := h1.dcell 6
 obtain ⟨ce, fe⟩ := h1.ecell
 have H := Aside0.mk h
 clear h h1
 have hta : ∀ (v : Value) (W : World), (Instr.typeAssert (.iface 68 v) 20 68 true).run Tryd.prog W = .ok (.tuple #[v, .bool true]) W := fun v W => by rfl
 refine callsD_of_wpS Tryd.func47 rfl fun c₀ cs hu => ?_
 have hT : ∀ a b : Value, (#[a, b] ++ Array.replicate (Tryd.f47.ntmps - (#[a, b] : Array Value).size) undef : Array Value) = #[a, b, undef, undef, undef, undef, undef, undef, undef, undef, undef, undef, undef, undef, undef, undef, undef] := by intro a b; rw [Tryd.ntmps47]; rfl
 rw [hT]
 clear hT
 apply wpS_seq
 apply wpS_region
 simp [wpOpsS, go_sem, recoverD, hu, faultV, Exit.thenS]
 refine wpS_of_wp ?_
 go_wp2
 have hD := (((H.out.alloc (.cells #[] 68)).seven 0 0 0 0 0 0 0).setE 11)
 have hB : ∀ B, B ≤ b → Below B w ((setSeven (w.alloc (.cells #[] 68)) b (.int .i64 0) (.int .i64 0) (.int .i64 0) (.int .i64 0) (.int .i64 0) (.int .i64 0) (.int .i64 0)).setCell ⟨b + 1, 0, none⟩ (.int .i64 11)) := fun B hB =>
  (below_seven ((Below.refl _ _).alloc (by have := H.out.lt; omega) _) hB _ _ _ _ _ _ _).setCell (p := ⟨b + 1, 0, none⟩) (by simp; omega) _
 clear c0 c1 c2 c3 c4 c5 c6 f0 f1 f2 f3 f4 f5 f6 ce fe hta H
 change bodyPostS Tryd.prog Tryd.f47 c₀ cs _ Exit.normal _ _ ((setSeven (w.alloc (.cells #[] 68)) b (.int .i64 0) (.int .i64 0) (.int .i64 0) (.int .i64 0) (.int .i64 0) (.int .i64 0) (.int .i64 0)).setCell ⟨b + 1, 0, none⟩ (.int .i64 11))
 generalize ((setSeven (w.alloc (.cells #[] 68)) b (.int .i64 0) (.int .i64 0) (.int .i64 0) (.int .i64 0) (.int .i64 0) (.int .i64 0) (.int .i64 0)).setCell ⟨b + 1, 0, none⟩ (.int .i64 11)) = W at hD hB ⊢
 have HD := Aside0.mk hD
 have HB := Aside0.mk hB
 clear hD hB
 cases c₀
 simp_all [bodyPostS, results, Tryd.results47]
 exact ⟨HD.out, HB.out⟩
abbrev D7 := Int × Int × Int × Int × Int × Int × Int
def readM (M : List UInt8 → Option D7) (l : List UInt8) : Option (Int × Int × Int × Int × Int × Int × Int × Int) :=
 match M l with
 | none => some (0, 0, 0, 0, 0, 0, 0, 11)
 | some (a, b, c, d, e, f, z) => (date_Right.f 1 a b c d e f z).map fun r => if r = true then (a, b, c, d, e, f, z, 0) else (0, 0, 0, 0, 0, 0, 0, 11)
set_option maxHeartbeats 1000000 in
set_option maxRecDepth 100000 in
theorem read_any (F : Nat) (M : List UInt8 → Option D7)
  (hF : ∀ (g : Nat) (l : List UInt8) (hll : l.length ≤ 9223372036854775807) (w : World) (hr : Rdr w g 49 l) (R : Ending → World → Prop)
   (hok : ∀ a b c d e f z, M l = some (a, b, c, d, e, f, z) → ∀ w', w.grownBy w' (some g) → R (.returned (.agg #[.int .i64 a, .int .i64 b, .int .i64 c, .int .i64 d, .int .i64 e, .int .i64 f, .int .i64 z])) w')
   (hno : M l = none → ∀ w', w.grownBy w' (some g) → R (.panicked faultV) w'), Calls Tryd.prog F #[.pointer (some ⟨g, 0, none⟩)] w R)
  (hcf : ∀ (a : Array Value) (W : World), (callFunc F a).run Tryd.prog W = .ok (.enter F a) W)
  (l : List UInt8) (hll : l.length ≤ 9223372036854775807) (w : World) (r1 r2 r3 r4 r5 r6 r7 r8 : Int) (h : readM M l = some (r1, r2, r3, r4, r5, r6, r7, r8)) :
  Calls Tryd.prog 17 #[.string ⟨l.toArray⟩, .func (.func F) #[] #[]] w fun e w' => e = .returned (.tuple #[.agg #[.int .i64 r1, .int .i64 r2, .int .i64 r3, .int .i64 r4, .int .i64 r5, .int .i64 r6, .int .i64 r7], .int .i64 r8]) ∧ Below w.heap.size w w' := by
 have HF := Aside0.mk hF
 have H := Aside0.mk h
 clear hF h
 have hmf : ∀ (fn : Fn) (first cap : Array Value) (w : World), (Instr.makeFunc fn first cap).run Tryd.prog w = .ok (.func fn first cap) w := fun _ _ _ _ => rfl
 go_enter_defers Tryd.func17, Tryd.ntmps17
 have hrd : Rdr (((w.alloc (.cells #[.int .i64 0, .int .i64 0, .int .i64 0, .int .i64 0, .int .i64 0, .int .i64 0, .int .i64 0] 24)).alloc (.cells #[.int .i64 0] 25)).alloc (.cells #[.string ⟨l.toArray⟩] 49)) (w.heap.size + 1 + 1) 49 l := by
  have := heap_alloc_new ((w.alloc (.cells #[.int .i64 0, .int .i64 0, .int .i64 0, .int .i64 0, .int .i64 0, .int .i64 0, .int .i64 0] 24)).alloc (.cells #[.int .i64 0] 25)) (.cells #[.string ⟨l.toArray⟩] 49)
  rw [show ((w.alloc (.cells #[.int .i64 0, .int .i64 0, .int .i64 0, .int .i64 0, .int .i64 0, .int .i64 0, .int .i64 0] 24)).alloc (.cells #[.int .i64 0] 25)).heap.size = w.heap.size + 1 + 1 by simp] at this
  exact this
 have hde : DE (((w.alloc (.cells #[.int .i64 0, .int .i64 0, .int .i64 0, .int .i64 0, .int .i64 0, .int .i64 0, .int .i64 0] 24)).alloc (.cells #[.int .i64 0] 25)).alloc (.cells #[.string ⟨l.toArray⟩] 49)) w.heap.size [0, 0, 0, 0, 0, 0, 0] 0 := by
  have h1 := heap_alloc_new w (.cells #[.int .i64 0, .int .i64 0, .int .i64 0, .int .i64 0, .int .i64 0, .int .i64 0, .int .i64 0] 24)
  have h2 := heap_alloc_new (w.alloc (.cells #[.int .i64 0, .int .i64 0, .int .i64 0, .int .i64 0, .int .i64 0, .int .i64 0, .int .i64 0] 24)) (.cells #[.int .i64 0] 25)
  rw [show (w.alloc (.cells #[.int .i64 0, .int .i64 0, .int .i64 0, .int .i64 0, .int .i64 0, .int .i64 0, .int .i64 0] 24)).heap.size = w.heap.size + 1 by simp] at h2
  exact ⟨(Below.heap_alloc _ _ _ (by simp; omega)).trans ((Below.heap_alloc _ _ _ (by simp)).trans h1), (Below.heap_alloc _ _ _ (by simp)).trans h2, rfl⟩
 have hbl : Below w.heap.size w (((w.alloc (.cells #[.int .i64 0, .int .i64 0, .int .i64 0, .int .i64 0, .int .i64 0, .int .i64 0, .int .i64 0] 24)).alloc (.cells #[.int .i64 0] 25)).alloc (.cells #[.string ⟨l.toArray⟩] 49)) :=
  (((Below.refl _ _).alloc (Nat.le_refl _) _).alloc (by simp) _).alloc (by simp; omega) _
 have HRd := Aside0.mk hrd
 have HDe := Aside0.mk hde
 have HBl := Aside0.mk hbl
 clear hrd hde hbl
 go_wp2_with fail
 generalize (((w.alloc (.cells #[.int .i64 0, .int .i64 0, .int .i64 0, .int .i64 0, .int .i64 0, .int .i64 0, .int .i64 0] 24)).alloc (.cells #[.int .i64 0] 25)).alloc (.cells #[.string ⟨l.toArray⟩] 49)) = W0 at HRd HDe HBl ⊢
 refine HF.out (w.heap.size + 1 + 1) l hll W0 HRd.out _ ?_ ?_
 ·
  intro a b c d e f z hm w1 hg
  have hH := H.out
  unfold readM at hH
  rw [hm] at hH
  simp only at hH
  cases hR : date_Right.f 1 a b c d e f z with
  | none => rw [hR] at hH; cases hH
  | some r =>
   rw [hR] at hH
   simp only [Option.map_some] at hH
   injection hH with hH
   have hd1 := HDe.out.grown hg (by omega)
   have hb1 := below_only HBl.out hg (by have := HBl.out.size; omega) (by omega)
   have hd2 := hd1.seven a b c d e f z
   have hb2 := below_seven hb1 (Nat.le_refl _) (.int .i64 a) (.int .i64 b) (.int .i64 c) (.int .i64 d) (.int .i64 e) (.int .i64 f) (.int .i64 z)
   obtain ⟨c0, f0⟩ := hd1.dcell 0
   obtain ⟨c1, f1⟩ := hd1.dcell 1
   obtain ⟨c2, f2⟩ := hd1.dcell 2
   obtain ⟨c3, f3⟩ := hd1.dcell 3
   obtain ⟨c4, f4⟩ := hd1.dcell 4
   obtain ⟨c5, f5⟩ := hd1.dcell 5
   obtain ⟨c6, f6⟩ := hd1.dcell 6
   have HRr := Aside0.mk hR
   have HH := Aside0.mk hH
   have HD2 := Aside0.mk hd2
   have HB2 := Aside0.mk hb2
   clear hR hH hd1 hb1 hd2 hb2 hm hg HF HRd HDe HBl H hmf hcf
   go_wp2_with fail
   clear c0 c1 c2 c3 c4 c5 c6 f0 f1 f2 f3 f4 f5 f6
   change Calls Tryd.prog 13 _ (setSeven w1 w.heap.size (.int .i64 a) (.int .i64 b) (.int .i64 c) (.int .i64 d) (.int .i64 e) (.int .i64 f) (.int .i64 z)) _
   generalize setSeven w1 w.heap.size (.int .i64 a) (.int .i64 b) (.int .i64 c) (.int .i64 d) (.int .i64 e) (.int .i64 f) (.int .i64 z) = W2 at HD2 HB2 ⊢
   refine (date_Right.calls 1 a b c d e f z r W2 HRr.out).mono ?_
   rintro e' w3 ⟨rfl, hb3⟩
   have hd3 := HD2.out.below hb3 HD2.out.lt
   have hb4 := HB2.out.trans (hb3.mono (HB2.out.size))
   obtain ⟨c0, f0⟩ := hd3.dcell 0
   obtain ⟨c1, f1⟩ := hd3.dcell 1
   obtain ⟨c2, f2⟩ := hd3.dcell 2
   obtain ⟨c3, f3⟩ := hd3.dcell 3
   obtain ⟨c4, f4⟩ := hd3.dcell 4
   obtain ⟨c5, f5⟩ := hd3.dcell 5
   obtain ⟨c6, f6⟩ := hd3.dcell 6
   obtain ⟨ce, fe⟩ := hd3.ecell
   simp only [List.getD_cons_zero, List.getD_cons_succ] at c0 c1 c2 c3 c4 c5 c6
   have HD3 := Aside0.mk hd3
   have HB4 := Aside0.mk hb4
   clear hd3 hb4 hb3 HD2 HB2 HRr
   cases r with
   | true =>
    have hH := HH.out
    rw [if_pos rfl] at hH
    simp only [Prod.mk.injEq] at hH
    obtain ⟨rfl, rfl, rfl, rfl, rfl, rfl, rfl, rfl⟩ := hH
    go_wp2_with fail
    clear c0 c1 c2 c3 c4 c5 c6 f0 f1 f2 f3 f4 f5 f6 ce fe
    have hd5 := (HD3.out.seven a b c d e f z).setE 0
    have hb5 : Below w.heap.size w ((setSeven w3 w.heap.size (.int .i64 a) (.int .i64 b) (.int .i64 c) (.int .i64 d) (.int .i64 e) (.int .i64 f) (.int .i64 z)).setCell ⟨w.heap.size + 1, 0, none⟩ (.int .i64 0)) := (below_seven HB4.out (Nat.le_refl _) _ _ _ _ _ _ _).setCell (p := ⟨w.heap.size + 1, 0, none⟩) (Nat.le_succ _) _
    change bodyPostD Tryd.prog Tryd.f17 _ Exit.ret _ ((setSeven w3 w.heap.size (.int .i64 a) (.int .i64 b) (.int .i64 c) (.int .i64 d) (.int .i64 e) (.int .i64 f) (.int .i64 z)).setCell ⟨w.heap.size + 1, 0, none⟩ (.int .i64 0))
    generalize ((setSeven w3 w.heap.size (.int .i64 a) (.int .i64 b) (.int .i64 c) (.int .i64 d) (.int .i64 e) (.int .i64 f) (.int .i64 z)).setCell ⟨w.heap.size + 1, 0, none⟩ (.int .i64 0)) = W5 at hd5 hb5 ⊢
    obtain ⟨c0, _⟩ := hd5.dcell 0
    obtain ⟨c1, _⟩ := hd5.dcell 1
    obtain ⟨c2, _⟩ := hd5.dcell 2
    obtain ⟨c3, _⟩ := hd5.dcell 3
    obtain ⟨c4, _⟩ := hd5.dcell 4
    obtain ⟨c5, _⟩ := hd5.dcell 5
    obtain ⟨c6, _⟩ := hd5.dcell 6
    obtain ⟨ce, _⟩ := hd5.ecell
    simp only [List.getD_cons_zero, List.getD_cons_succ] at c0 c1 c2 c3 c4 c5 c6
    refine leaves_cons (f := 47) (args := #[.pointer (some ⟨w.heap.size, 0, none⟩), .pointer (some ⟨w.heap.size + 1, 0, none⟩)]) (by simp) (by simp [go_sem]) ?_
    refine (catch_idle ⟨w.heap.size, 0, none⟩ ⟨w.heap.size + 1, 0, none⟩ _).mono ?_
    rintro e'' u' w'' ⟨rfl, rfl, rfl⟩
    simp [Leaves, settle, results, Tryd.results17, go_sem, c0, c1, c2, c3, c4, c5, c6, ce]
    exact hb5
   | false =>
    have hH := HH.out
    rw [if_neg (by simp)] at hH
    simp only [Prod.mk.injEq] at hH
    obtain ⟨rfl, rfl, rfl, rfl, rfl, rfl, rfl, rfl⟩ := hH
    go_wp2_with fail
    clear c0 c1 c2 c3 c4 c5 c6 f0 f1 f2 f3 f4 f5 f6 ce fe
    have hd5 := (HD3.out.seven 0 0 0 0 0 0 0).setE 11
    have hb5 : Below w.heap.size w ((setSeven w3 w.heap.size (.int .i64 0) (.int .i64 0) (.int .i64 0) (.int .i64 0) (.int .i64 0) (.int .i64 0) (.int .i64 0)).setCell ⟨w.heap.size + 1, 0, none⟩ (.int .i64 11)) := (below_seven HB4.out (Nat.le_refl _) _ _ _ _ _ _ _).setCell (p := ⟨w.heap.size + 1, 0, none⟩) (Nat.le_succ _) _
    change bodyPostD Tryd.prog Tryd.f17 _ Exit.ret _ ((setSeven w3 w.heap.size (.int .i64 0) (.int .i64 0) (.int .i64 0) (.int .i64 0) (.int .i64 0) (.int .i64 0) (.int .i64 0)).setCell ⟨w.heap.size + 1, 0, none⟩ (.int .i64 11))
    generalize ((setSeven w3 w.heap.size (.int .i64 0) (.int .i64 0) (.int .i64 0) (.int .i64 0) (.int .i64 0) (.int .i64 0) (.int .i64 0)).setCell ⟨w.heap.size + 1, 0, none⟩ (.int .i64 11)) = W5 at hd5 hb5 ⊢
    obtain ⟨c0, _⟩ := hd5.dcell 0
    obtain ⟨c1, _⟩ := hd5.dcell 1
    obtain ⟨c2, _⟩ := hd5.dcell 2
    obtain ⟨c3, _⟩ := hd5.dcell 3
    obtain ⟨c4, _⟩ := hd5.dcell 4
    obtain ⟨c5, _⟩ := hd5.dcell 5
    obtain ⟨c6, _⟩ := hd5.dcell 6
    obtain ⟨ce, _⟩ := hd5.ecell
    simp only [List.getD_cons_zero, List.getD_cons_succ] at c0 c1 c2 c3 c4 c5 c6
    refine leaves_cons (f := 47) (args := #[.pointer (some ⟨w.heap.size, 0, none⟩), .pointer (some ⟨w.heap.size + 1, 0, none⟩)]) (by simp) (by simp [go_sem]) ?_
    refine (catch_idle ⟨w.heap.size, 0, none⟩ ⟨w.heap.size + 1, 0, none⟩ _).mono ?_
    rintro e'' u' w'' ⟨rfl, rfl, rfl⟩
    simp [Leaves, settle, results, Tryd.results17, go_sem, c0, c1, c2, c3, c4, c5, c6, ce]
    exact hb5
 ·
  intro hm w1 hg
  have hH := H.out
  unfold readM at hH
  rw [hm] at hH
  injection hH with hH
  simp only [Prod.mk.injEq] at hH
  obtain ⟨rfl, rfl, rfl, rfl, rfl, rfl, rfl, rfl⟩ := hH
  have hd1 := HDe.out.grown hg (by omega)
  have hb1 := below_only HBl.out hg (by have := HBl.out.size; omega) (by omega)
  refine leaves_cons (f := 47) (args := #[.pointer (some ⟨w.heap.size, 0, none⟩), .pointer (some ⟨w.heap.size + 1, 0, none⟩)]) (by simp) (by simp [go_sem]) ?_
  refine (catch_fault w.heap.size _ _ w1 hd1).mono ?_
  rintro e u' w'' ⟨rfl, rfl, hD, hB⟩
  have hb2 := hb1.trans (hB _ (Nat.le_refl _))
  obtain ⟨c0, _⟩ := hD.dcell 0
  obtain ⟨c1, _⟩ := hD.dcell 1
  obtain ⟨c2, _⟩ := hD.dcell 2
  obtain ⟨c3, _⟩ := hD.dcell 3
  obtain ⟨c4, _⟩ := hD.dcell 4
  obtain ⟨c5, _⟩ := hD.dcell 5
  obtain ⟨c6, _⟩ := hD.dcell 6
  obtain ⟨ce, _⟩ := hD.ecell
  simp only [List.getD_cons_zero, List.getD_cons_succ] at c0 c1 c2 c3 c4 c5 c6
  simp [Leaves, settle, results, Tryd.results17, go_sem, c0, c1, c2, c3, c4, c5, c6, ce]
  exact hb2
theorem hcf28 (a : Array Value) (W : World) : (callFunc 40 a).run Tryd.prog W = .ok (.enter 40 a) W := by
 simp [go_sem, callFunc]
 rw [if_neg (of_decide_eq_false (by kernel_rfl)), if_neg (fun h => by cases h)]
theorem hcf48 (a : Array Value) (W : World) : (callFunc 37 a).run Tryd.prog W = .ok (.enter 37 a) W := by
 simp [go_sem, callFunc]
 rw [if_neg (of_decide_eq_false (by kernel_rfl)), if_neg (fun h => by cases h)]
theorem hcf18 (a : Array Value) (W : World) : (callFunc 18 a).run Tryd.prog W = .ok (.enter 18 a) W := by
 simp [go_sem, callFunc]
 rw [if_neg (of_decide_eq_false (by kernel_rfl)), if_neg (fun h => by cases h)]
def date_read.f (a0 : ByteArray) (a1 : Nat) : Option (Int × Int × Int × Int × Int × Int × Int × Int) :=
 if a0.size ≤ 9223372036854775807 then (if a1 = 40 then readM internalL a0.data.toList else if a1 = 37 then readM dayL a0.data.toList else if a1 = 18 then readM mailL a0.data.toList else none) else none
theorem date_read.calls (a0 : ByteArray) (a1 : Nat) (r1 r2 r3 r4 r5 r6 r7 r8 : Int) (w : World) (h : date_read.f a0 a1 = some (r1, r2, r3, r4, r5, r6, r7, r8)) :
  Calls Tryd.prog 17 #[.string a0, .func (.func a1) #[] #[]] w fun e w' => e = .returned (.tuple #[.agg #[.int .i64 r1, .int .i64 r2, .int .i64 r3, .int .i64 r4, .int .i64 r5, .int .i64 r6, .int .i64 r7], .int .i64 r8]) ∧ Below w.heap.size w w' := by
 unfold date_read.f at h
 split at h
 case isFalse => cases h
 rename_i hs
 have hl : a0.data.toList.length ≤ 9223372036854775807 := hs
 have e : a0 = ⟨a0.data.toList.toArray⟩ := by cases a0; simp
 split at h
 ·
  rename_i h1; subst h1
  rw [e]
  exact read_any 40 internalL internal1_any hcf28 _ hl w _ _ _ _ _ _ _ _ h
 ·
  split at h
  ·
   rename_i h1; subst h1
   rw [e]
   exact read_any 37 dayL day1_any hcf48 _ hl w _ _ _ _ _ _ _ _ h
  ·
   split at h
   ·
    rename_i h1; subst h1
    rw [e]
    exact read_any 18 mailL mail1_any hcf18 _ hl w _ _ _ _ _ _ _ _ h
   ·
    cases h
end Go.Proofs.YtooknjpdflokkaaDoor.PP
