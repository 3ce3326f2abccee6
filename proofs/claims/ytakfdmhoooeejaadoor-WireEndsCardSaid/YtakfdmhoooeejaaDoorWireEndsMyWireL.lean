/- YtakfdmhoooeejaaDoorMyWireL, as far as WireEnds needs it (prune.py). -/
import Derived.Test.YtakfdmhoooeejaaDoorWireEndsMyWireK
import Derived.Test.YtakfdmhoooeejaaDoorWireEndsPPx1
import Derived.Test.YtakfdmhoooeejaaDoorWireEndsPPx5
import Derived.Test.YtakfdmhoooeejaaDoorWireEndsPPx6
import Derived.Test.YtakfdmhoooeejaaDoorWireEndsPPx8
import Derived.Test.YtakfdmhoooeejaaDoorWireEndsPPx10
import Derived.Test.YtakfdmhoooeejaaDoorWireEndsPPx11
namespace Go.Proofs.YtakfdmhoooeejaaDoor.PP
open Go.RowKit Go.Proofs.YtakfdmhoooeejaaDoorW.PrintWords Go.Proofs.YtakfdmhoooeejaaDoorW.PrintLast Go.Proofs.YtakfdmhoooeejaaDoorW.PrintMore
open Go.Proofs.YtakfdmhoooeejaaDoor.My
set_option linter.unusedVariables false
set_option linter.unusedSimpArgs false
/-- From some number of rounds on, f tells v. -/
def Ev {α : Type} (f : Nat → Option α) (v : α) : Prop := ∃ K, ∀ k, K ≤ k → f k = some v
theorem Ev.go {α : Type} {g h : Nat → Option α} {v : α} (e : ∀ k, g (k + 1) = h k) (H : Ev h v) : Ev g v := by
  obtain ⟨K, hK⟩ := H
  refine ⟨K + 1, fun k hk => ?_⟩
  obtain ⟨j, rfl⟩ : ∃ j, k = j + 1 := ⟨k - 1, by omega⟩
  rw [e]; exact hK j (by omega)
theorem Ev.same {α : Type} {g h : Nat → Option α} {v : α} (e : ∀ k, g k = h k) (H : Ev h v) : Ev g v := by
  obtain ⟨K, hK⟩ := H
  exact ⟨K, fun k hk => by rw [e]; exact hK k hk⟩
theorem Ev.bd {α β : Type} {g : Nat → Option α} {f : Nat → α → Option β} {a : α} {r : β} (h : Ev g a) (k : Ev (fun n => f n a) r) : Ev (fun n => (g n).bind (f n)) r := by
  obtain ⟨K, hK⟩ := h
  obtain ⟨M, hM⟩ := k
  refine ⟨K + M, fun n hn => ?_⟩
  simp only [hK n (by omega), Option.bind_some]
  exact hM n (by omega)
theorem Ev.ret {α : Type} (r : α) : Ev (fun _ => some r) r := ⟨0, fun _ _ => rfl⟩
theorem Ev.ex {α : Type} {f : Nat → Option α} {v : α} (h : Ev f v) : ∃ k, f k = some v := by
  obtain ⟨K, hK⟩ := h
  exact ⟨K, hK K (Nat.le_refl _)⟩
theorem w64 {x : Int} (h : -9223372036854775808 ≤ x ∧ x ≤ 9223372036854775807) : wrap64 x = x := by unfold wrap64; omega
theorem texts_l0 (xs : List ByteArray) (hm : xs.length ≤ 1000000000000000) : ∀ (n i : Nat), i + n = xs.length → Ev (fun k => haversackref13_Texts.l0 k xs xs i) true
  | 0, i, h => by
    apply Ev.go (h := fun _ => some true)
    · intro k
      rw [haversackref13_Texts.l0, if_neg (by omega)]
    · exact Ev.ret _
  | n + 1, i, h => by
    apply Ev.go (h := fun k => haversackref13_Texts.l0 k xs xs ((i + 1 : Nat) : Int))
    · intro k
      rw [haversackref13_Texts.l0, if_pos (by omega), if_pos (by omega), if_pos (by omega), if_pos rfl, w64 (by omega)]
      rfl
    · exact texts_l0 xs hm n (i + 1) (by omega)
theorem texts_ev (xs : List ByteArray) (hm : xs.length ≤ 1000000000000000) : Ev (fun k => haversackref13_Texts.f k xs xs) true :=
  Ev.same (fun k => by rw [haversackref13_Texts.f, if_pos rfl]; rfl) (texts_l0 xs hm xs.length 0 (by omega))
theorem same_l0 (xs : List Evt) (hm : xs.length ≤ 1000000000000000) (ht : ∀ x ∈ xs, x.f1.f0.length ≤ 1000000000000000 ∧ x.f1.f1.length ≤ 1000000000000000) : ∀ (n i : Nat), i + n = xs.length → Ev (fun k => haversackref13_Same.l0 k xs xs i) true
  | 0, i, h => by
    apply Ev.go (h := fun _ => some true)
    · intro k
      rw [haversackref13_Same.l0, if_neg (by omega)]
    · exact Ev.ret _
  | n + 1, i, h => by
    have hx : rd_T39 xs i ∈ xs := by
      unfold rd_T39
      rw [Int.toNat_natCast, List.getD_eq_getElem?_getD, List.getElem?_eq_getElem (by omega), Option.getD_some]
      exact List.getElem_mem _
    have hb := ht _ hx
    refine Ev.go (h := fun k => ((haversackref13_Texts.f k (rd_T39 xs i).f1.f0 (rd_T39 xs i).f1.f0).bind fun t115 => (if t115 = true then ((haversackref13_Texts.f k (rd_T39 xs i).f1.f1 (rd_T39 xs i).f1.f1).bind fun t118 => (if t118 = true then (haversackref13_Same.l0 k xs xs ((i + 1 : Nat) : Int)) else (some false))) else (some false)))) (fun k => ?_) ?_
    · rw [haversackref13_Same.l0, if_pos (by omega), if_pos (by omega), if_pos (by omega), if_pos rfl, w64 (by omega)]
      rfl
    · refine Ev.bd (texts_ev _ hb.1) ?_
      refine Ev.same (fun k => if_pos rfl) ?_
      refine Ev.bd (texts_ev _ hb.2) ?_
      refine Ev.same (fun k => if_pos rfl) ?_
      exact same_l0 xs hm ht n (i + 1) (by omega)
theorem same_ev (xs : List Evt) (hm : xs.length ≤ 1000000000000000) (ht : ∀ x ∈ xs, x.f1.f0.length ≤ 1000000000000000 ∧ x.f1.f1.length ≤ 1000000000000000) : Ev (fun k => haversackref13_Same.f k xs xs) true :=
  Ev.same (fun k => by rw [haversackref13_Same.f, if_pos rfl]; rfl) (same_l0 xs hm ht xs.length 0 (by omega))
theorem bytesOf_len (s : ByteArray) : (bytesOf s).length = s.size := by
  unfold bytesOf
  rw [List.length_map]
  rfl
theorem text_l1 (P : ByteArray × Bool → Prop) (xs : List S47) (i : Int) (s0 more : ByteArray) (N : Int) (x4 : ByteArray) (hx4 : x4.size ≤ 180000) (hmore : more.size ≤ 60000)
    (hk : ∀ y : ByteArray, y.size ≤ 240000 → ∃ r, Ev (fun k => haversacklaw13_text.l0 k y xs (xs.length : Int) (wrap64 (i + 1))) r ∧ P r) :
    ∀ (m : Nat) (x7 : List Int) (x8 : Int), (N - x8).toNat = m → 0 ≤ x8 → (0 < more.size → x8 ≤ 60000 ∧ N ≤ 60000 ∧ x7.length + m * more.size ≤ 60000) → x7.length ≤ 60000 →
      ∃ r, Ev (fun k => haversacklaw13_text.l1 k x4 x7 x8 xs (xs.length : Int) i s0 more N) r ∧ P r
  | 0, x7, x8, hm, h0, hb, h7 => by
    have hs := strOfNums_size x7
    obtain ⟨r, hr, hp⟩ := hk (x4 ++ strOfNums x7) (by rw [ByteArray.size_append]; omega)
    refine ⟨r, Ev.go (fun k => ?_) hr, hp⟩
    rw [haversacklaw13_text.l1, if_neg (by omega), if_pos (by omega)]
  | m + 1, x7, x8, hm, h0, hb, h7 => by
    by_cases hz : 0 < more.size
    · obtain ⟨b1, b2, b3⟩ := hb hz
      have hmul : (m + 1) * more.size = m * more.size + more.size := by rw [Nat.succ_mul]
      obtain ⟨r, hr, hp⟩ := text_l1 P xs i s0 more N x4 hx4 hmore hk m (x7 ++ bytesOf more) (x8 + 1) (by omega) (by omega) (fun _ => ⟨by omega, b2, by rw [List.length_append, bytesOf_len]; omega⟩) (by rw [List.length_append, bytesOf_len]; omega)
      refine ⟨r, Ev.go (fun k => ?_) hr, hp⟩
      rw [haversacklaw13_text.l1, if_pos (by omega), if_pos (by omega), if_pos (by omega), w64 (by omega)]
    · have hs := strOfNums_size x7
      obtain ⟨r, hr, hp⟩ := hk (x4 ++ strOfNums x7) (by rw [ByteArray.size_append]; omega)
      refine ⟨r, Ev.go (fun k => ?_) hr, hp⟩
      rw [haversacklaw13_text.l1, if_pos (by omega), if_neg (by omega), if_pos (by omega)]
def okT (r : ByteArray × Bool) : Prop := r.2 = true → r.1.size ≤ 180000
theorem text_j1t (x4 : ByteArray) (xs : List S47) (i : Int) (s0 more : ByteArray) (N : Int) : ∃ r, Ev (fun k => haversacklaw13_text.j1 k x4 xs (xs.length : Int) i true s0 more N) r ∧ okT r :=
  ⟨_, Ev.go (fun k => by rw [haversacklaw13_text.j1, if_pos rfl]) (Ev.ret _), fun h => by cases h⟩
theorem text_l0 (xs : List S47) (hxl : xs.length ≤ 60) : ∀ (n i : Nat) (x4 : ByteArray), i + n = xs.length → x4.size ≤ 240000 → ∃ r, Ev (fun k => haversacklaw13_text.l0 k x4 xs (xs.length : Int) i) r ∧ okT r
  | 0, i, x4, h, h4 => ⟨_, Ev.go (fun k => by rw [haversacklaw13_text.l0, if_neg (by omega)]) (Ev.ret _), fun h => by have := of_decide_eq_true h; simp only at this ⊢; omega⟩
  | n + 1, i, x4, h, h4 => by
    have ih := fun (y : ByteArray) (hy : y.size ≤ 240000) => text_l0 xs hxl n (i + 1) y (by omega) hy
    have hw : wrap64 ((i : Int) + 1) = ((i + 1 : Nat) : Int) := by rw [w64 (by omega)]; rfl
    generalize hs : (rd_T47 xs (i : Int)).f0 = s0
    generalize hmr : (rd_T47 xs (i : Int)).f1 = more
    generalize hN : (rd_T47 xs (i : Int)).f2 = N
    have hgo : ∀ (g : Nat → Option (ByteArray × Bool)), (∀ k, haversacklaw13_text.l0 (k + 1) x4 xs (xs.length : Int) i = g k) → (∃ r, Ev g r ∧ okT r) → ∃ r, Ev (fun k => haversacklaw13_text.l0 k x4 xs (xs.length : Int) i) r ∧ okT r :=
      fun g hg ⟨r, hr, hp⟩ => ⟨r, Ev.go hg hr, hp⟩
    by_cases h1 : (s0.size : Int) > 60000
    · refine hgo _ (fun k => ?_) (text_j1t x4 xs i s0 more N)
      rw [haversacklaw13_text.l0, if_pos (by omega), if_pos (by omega), if_pos (by omega), hs, hmr, hN, if_pos h1]
    by_cases h2 : (more.size : Int) > 60000
    · refine hgo _ (fun k => ?_) (text_j1t x4 xs i s0 more N)
      rw [haversacklaw13_text.l0, if_pos (by omega), if_pos (by omega), if_pos (by omega), hs, hmr, hN, if_neg h1, if_pos h2]
    have hj : (0 < more.size → N ≤ 60000 / (more.size : Int)) → ∃ r, Ev (fun k => haversacklaw13_text.j1 k x4 xs (xs.length : Int) i (decide ((x4.size : Int) > 120000)) s0 more N) r ∧ okT r := by
      intro hq
      by_cases h5 : (x4.size : Int) > 120000
      · rw [decide_eq_true h5]
        exact text_j1t x4 xs i s0 more N
      · rw [decide_eq_false h5]
        have hN6 : 0 < more.size → N ≤ 60000 := fun hz => Int.le_trans (hq hz) (by
          have : (60000 : Int) / (more.size : Int) ≤ 60000 := Int.ediv_le_self _ (by omega)
          exact this)
        have hNm : 0 < more.size → N.toNat * more.size ≤ 60000 := fun hz => by
          have hq' := hq hz
          rcases Int.lt_or_le N 0 with hn | hn
          · rw [show N.toNat = 0 by omega]; omega
          · have h3 : N * (more.size : Int) ≤ (60000 / (more.size : Int)) * (more.size : Int) := Int.mul_le_mul_of_nonneg_right hq' (by omega)
            have h4 : (60000 / (more.size : Int)) * (more.size : Int) ≤ 60000 := Int.ediv_mul_le _ (by omega)
            have h5 : ((N.toNat * more.size : Nat) : Int) = N * (more.size : Int) := by rw [Int.natCast_mul, Int.toNat_of_nonneg hn]
            omega
        obtain ⟨r, hr, hp⟩ := text_l1 okT xs i s0 more N (x4 ++ s0) (by rw [ByteArray.size_append]; omega) (by omega) (fun y hy => by rw [hw]; exact ih y hy) (N - 0).toNat [] 0 rfl (by omega) (fun hz => ⟨by omega, hN6 hz, by have := hNm hz; simp; omega⟩) (by simp)
        refine ⟨r, Ev.go (fun k => ?_) hr, hp⟩
        rw [haversacklaw13_text.j1, if_neg (by decide), if_pos (by omega)]
    by_cases h3 : (more.size : Int) > 0
    · have hw6 : wrap64 ((60000 : Int) / (more.size : Int)) = 60000 / (more.size : Int) := w64 (by
        have a1 : (60000 : Int) / (more.size : Int) ≤ 60000 := Int.ediv_le_self _ (by omega)
        have a2 : 0 ≤ (60000 : Int) / (more.size : Int) := Int.ediv_nonneg (by omega) (by omega)
        omega)
      by_cases h4 : N > wrap64 ((60000 : Int) / (more.size : Int))
      · refine hgo _ (fun k => ?_) (text_j1t x4 xs i s0 more N)
        rw [haversacklaw13_text.l0, if_pos (by omega), if_pos (by omega), if_pos (by omega), hs, hmr, hN, if_neg h1, if_neg h2, if_pos h3, if_neg (by omega), if_pos h4]
      · refine hgo _ (fun k => ?_) (hj (fun _ => by rw [hw6] at h4; omega))
        rw [haversacklaw13_text.l0, if_pos (by omega), if_pos (by omega), if_pos (by omega), hs, hmr, hN, if_neg h1, if_neg h2, if_pos h3, if_neg (by omega), if_neg h4]
    · refine hgo _ (fun k => ?_) (hj (fun hz => absurd hz (by omega)))
      rw [haversacklaw13_text.l0, if_pos (by omega), if_pos (by omega), if_pos (by omega), hs, hmr, hN, if_neg h1, if_neg h2, if_neg h3]
theorem text_ev (xs : List S47) : ∃ r, Ev (fun k => haversacklaw13_text.f k xs) r ∧ okT r := by
  by_cases h : (xs.length : Int) > 60
  · exact ⟨_, Ev.same (fun k => by rw [haversacklaw13_text.f, if_pos h]) (Ev.ret _), fun h => by cases h⟩
  · obtain ⟨r, hr, hp⟩ := text_l0 xs (by omega) xs.length 0 ⟨#[]⟩ (by omega) (by decide)
    exact ⟨r, Ev.same (fun k => by rw [haversacklaw13_text.f, if_neg h]; rfl) hr, hp⟩
end Go.Proofs.YtakfdmhoooeejaaDoor.PP
