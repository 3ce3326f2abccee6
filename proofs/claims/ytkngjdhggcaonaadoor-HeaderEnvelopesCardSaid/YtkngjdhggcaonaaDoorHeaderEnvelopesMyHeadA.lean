/- YtkngjdhggcaonaaDoorMyHeadA, as far as HeaderEnvelopes needs it (prune.py). -/
import Derived.Test.YtkngjdhggcaonaaDoorHeaderEnvelopesPPx16
import Derived.Test.YtkngjdhggcaonaaDoorHeaderEnvelopesMyBits
import Derived.Test.YtkngjdhggcaonaaDoorHeaderEnvelopesMyRd
namespace Go.Proofs.YtkngjdhggcaonaaDoor.Pure
open Go.RowKit Go.Proofs.YtkngjdhggcaonaaDoor.PP Go.Proofs.YtkngjdhggcaonaaDoor.My Go.Proofs.YtkngjdhggcaonaaDoorW.PrintWords Go.Proofs.YtkngjdhggcaonaaDoorW.PrintLast
set_option linter.unusedVariables false
set_option linter.unusedSimpArgs false
theorem at_rounds {α : Type} {f : Nat → Option α} (hm : ∀ k, LeO (f k) (f (k + 1))) {k0 k : Nat} (hk : k0 ≤ k) {v : α} (h : f k0 = some v) : f k = some v := by
  obtain ⟨d, rfl⟩ : ∃ d, k = k0 + d := ⟨k - k0, by omega⟩
  clear hk
  induction d with
  | zero => exact h
  | succ d ih => exact hm _ _ ih
theorem alive_90 : haversacklaw10_alive.f 90 = some true := by decide +kernel
/-- From some number of rounds on, f tells v. -/
def Ev {α : Type} (f : Nat → Option α) (v : α) : Prop := ∃ K, ∀ k, K ≤ k → f k = some v
theorem Ev.next {α : Type} {g h : Nat → Option α} {v : α} (e : ∀ k, g (k + 1) = h k) (H : Ev h v) : Ev g v := by
  obtain ⟨K, hK⟩ := H
  refine ⟨K + 1, fun k hk => ?_⟩
  obtain ⟨j, rfl⟩ : ∃ j, k = j + 1 := ⟨k - 1, by omega⟩
  rw [e]; exact hK j (by omega)
theorem Ev.now {α : Type} {g : Nat → Option α} {v : α} (e : ∀ k, g (k + 1) = some v) : Ev g v := by
  refine ⟨1, fun k hk => ?_⟩
  obtain ⟨j, rfl⟩ : ∃ j, k = j + 1 := ⟨k - 1, by omega⟩
  exact e j
theorem Ev.same {α : Type} {g h : Nat → Option α} {v : α} (e : ∀ k, g k = h k) (H : Ev h v) : Ev g v := by
  obtain ⟨K, hK⟩ := H
  exact ⟨K, fun k hk => by rw [e]; exact hK k hk⟩
theorem Ev.bd {α β : Type} {g : Nat → Option α} {f : Nat → α → Option β} {a : α} {r : β} (h : Ev g a) (k : Ev (fun n => f n a) r) : Ev (fun n => (g n).bind (f n)) r := by
  obtain ⟨K, hK⟩ := h
  obtain ⟨M, hM⟩ := k
  refine ⟨K + M, fun n hn => ?_⟩
  simp only [hK n (by omega), Option.bind_some]
  exact hM n (by omega)
theorem Ev.ret {α : Type} (r : α) : Ev (fun _ => some r) r := ⟨0, fun _ _ => rfl⟩
theorem Ev.go {α : Type} {g f : Nat → Option α} {r : α} (h : ∀ k, g (k + 1) = f k) (k : Ev f r) : Ev g r := Ev.next h k
theorem alive_ev : Ev haversacklaw10_alive.f true := ⟨90, fun k hk => at_rounds haversacklaw10_alive.mono hk alive_90⟩
theorem w64 {x : Int} (h : -9223372036854775808 ≤ x ∧ x ≤ 9223372036854775807) : wrap64 x = x := by unfold wrap64; omega
abbrev B (l : List UInt8) : ByteArray := ⟨l.toArray⟩
theorem isB (s : ByteArray) : ∃ l, s = B l := ⟨s.data.toList, rfl⟩
theorem bS (l : List UInt8) : (B l).size = l.length := rfl
theorem btn (l : List UInt8) (i : Nat) (h : i < l.length) : bt (B l) (i : Int) = ((l[i]).toNat : Int) := by
  unfold bt
  simp only [Int.toNat_natCast]
  rw [dif_pos (by simpa [ByteArray.size] using h)]
  rfl
theorem cAtB (l : List UInt8) (i : Nat) (h : i < l.length) : cAt (B l) i = l[i] := by
  rw [cAt_eq (by simpa [ByteArray.size] using h)]
  rfl
theorem u8i (c : UInt8) (d : UInt8) : ((c.toNat : Int) = (d.toNat : Int)) = (c = d) := by
  rw [eq_iff_iff]
  exact ⟨fun h => UInt8.toNat_inj.1 (by omega), fun h => by rw [h]⟩
theorem u92 (c : UInt8) : ((c.toNat : Int) = 92) = (c = 92) := by
  rw [show (92 : Int) = ((92 : UInt8).toNat : Int) from rfl, u8i]
theorem u40 (c : UInt8) : ((c.toNat : Int) = 40) = (c = 40) := by
  rw [show (40 : Int) = ((40 : UInt8).toNat : Int) from rfl, u8i]
theorem u41 (c : UInt8) : ((c.toNat : Int) = 41) = (c = 41) := by
  rw [show (41 : Int) = ((41 : UInt8).toNat : Int) from rfl, u8i]
theorem u34 (c : UInt8) : ((c.toNat : Int) = 34) = (c = 34) := by
  rw [show (34 : Int) = ((34 : UInt8).toNat : Int) from rfl, u8i]
theorem u60 (c : UInt8) : ((c.toNat : Int) = 60) = (c = 60) := by
  rw [show (60 : Int) = ((60 : UInt8).toNat : Int) from rfl, u8i]
theorem u62 (c : UInt8) : ((c.toNat : Int) = 62) = (c = 62) := by
  rw [show (62 : Int) = ((62 : UInt8).toNat : Int) from rfl, u8i]
theorem u44 (c : UInt8) : ((c.toNat : Int) = 44) = (c = 44) := by
  rw [show (44 : Int) = ((44 : UInt8).toNat : Int) from rfl, u8i]
theorem u9 (c : UInt8) : ((c.toNat : Int) = 9) = (c = 9) := by
  rw [show (9 : Int) = ((9 : UInt8).toNat : Int) from rfl, u8i]
theorem u10 (c : UInt8) : ((c.toNat : Int) = 10) = (c = 10) := by
  rw [show (10 : Int) = ((10 : UInt8).toNat : Int) from rfl, u8i]
theorem u13 (c : UInt8) : ((c.toNat : Int) = 13) = (c = 13) := by
  rw [show (13 : Int) = ((13 : UInt8).toNat : Int) from rfl, u8i]
theorem u32 (c : UInt8) : ((c.toNat : Int) = 32) = (c = 32) := by
  rw [show (32 : Int) = ((32 : UInt8).toNat : Int) from rfl, u8i]
/-- How many bytes it holds. -/
def remL : Int → List UInt8 → Nat
  | _, [] => 0
  | _, [_] => 1
  | d, c :: e :: r => if c = 92 then 2 + remL d r else if c = 40 then 1 + remL (d + 1) (e :: r) else if c = 41 then (if d - 1 = 0 then 1 else 1 + remL (d - 1) (e :: r)) else 1 + remL d (e :: r)
theorem remL_le : ∀ (n : Nat) (d : Int) (r : List UInt8), r.length ≤ n → remL d r ≤ r.length ∧ (r ≠ [] → 1 ≤ remL d r)
  | _, _, [], _ => by simp [remL]
  | _, _, [c], _ => by simp [remL]
  | 0, _, c :: e :: r, h => by simp at h
  | n + 1, d, c :: e :: r, h => by
    simp only [List.length_cons] at h
    have h1 := (remL_le n d r (by omega)).1
    have h2 := (remL_le n (d + 1) (e :: r) (by simp; omega)).1
    have h3 := (remL_le n (d - 1) (e :: r) (by simp; omega)).1
    have h4 := (remL_le n d (e :: r) (by simp; omega)).1
    simp only [List.length_cons] at h2 h3 h4
    rw [remL]
    refine ⟨?_, fun _ => ?_⟩
    · simp only [List.length_cons]
      (repeat' split) <;> omega
    · (repeat' split) <;> omega
theorem rem_step (l : List UInt8) (i : Nat) (d : Int) (hp : i < l.length) (hl : l.length ≤ 1000000000) (hd : -(i : Int) ≤ d ∧ d ≤ (i : Int)) (k : Nat) :
    header_remark.l0 (k + 1) (B l) (i : Int) d = (if l[i] = 92 then header_remark.l0 k (B l) ((i + 2 : Nat) : Int) d else if l[i] = 40 then header_remark.l0 k (B l) ((i + 1 : Nat) : Int) (d + 1) else if l[i] = 41 then (if d - 1 = 0 then some ((i + 1 : Nat) : Int) else header_remark.l0 k (B l) ((i + 1 : Nat) : Int) (d - 1)) else header_remark.l0 k (B l) ((i + 1 : Nat) : Int) d) := by
  have g0 : (0 : Int) ≤ (i : Int) := by omega
  have hg : (i : Int) < ((B l).size : Int) := by rw [bS]; omega
  have w1 : wrap64 ((i : Int) + 1) = ((i + 1 : Nat) : Int) := w64 (x := (i : Int) + 1) (by omega)
  have w2 : wrap64 (((i + 1 : Nat) : Int) + 1) = ((i + 2 : Nat) : Int) := w64 (x := ((i + 1 : Nat) : Int) + 1) (by clear w1; omega)
  have w3 : wrap64 (d + 1) = d + 1 := w64 (x := d + 1) (by clear w1 w2; omega)
  have w4 : wrap64 (d - 1) = d - 1 := w64 (x := d - 1) (by clear w1 w2 w3; omega)
  rw [header_remark.l0, if_pos hg, if_pos g0, btn l i hp, w1, w2, w3, w4]
  simp only [u92, u40, u41]
theorem rem_ev (l : List UInt8) (hl : l.length ≤ 1000000000) : ∀ (n i : Nat) (d : Int), (l.drop i).length ≤ n → i ≤ l.length + 1 → -(i : Int) ≤ d ∧ d ≤ (i : Int) → Ev (fun k => header_remark.l0 k (B l) (i : Int) d) (if i ≤ l.length then ((i + remL d (l.drop i) : Nat) : Int) else (l.length : Int)) := by
  intro n
  induction n using Nat.strongRecOn with
  | _ n ih =>
    intro i d hn hi hd
    by_cases hp : i < l.length
    · have hdr : l.drop i = l[i] :: l.drop (i + 1) := List.drop_eq_getElem_cons hp
      rw [if_pos (by omega)]
      have hlen : (l.drop i).length = l.length - i := by simp
      obtain ⟨c, hc⟩ : ∃ c, c = l[i] := ⟨_, rfl⟩
      rw [← hc] at hdr
      have step := fun k => rem_step l i d hp hl hd k
      rw [← hc] at step
      have hd1 : (l.drop (i + 1)).length < n := by simp; simp at hn; omega
      have hd2 : (l.drop (i + 2)).length < n := by simp; simp at hn; omega
      have i1 := fun d' (h : -((i + 1 : Nat) : Int) ≤ d' ∧ d' ≤ ((i + 1 : Nat) : Int)) => ih _ hd1 (i + 1) d' (Nat.le_refl _) (by omega) h
      have i2 := fun d' (h : -((i + 2 : Nat) : Int) ≤ d' ∧ d' ≤ ((i + 2 : Nat) : Int)) => ih _ hd2 (i + 2) d' (Nat.le_refl _) (by omega) h
      have hi1 : i + 1 ≤ l.length := by omega
      simp only [if_pos hi1] at i1
      have ex : ∀ e r, l.drop (i + 1) = e :: r → l.drop (i + 2) = r ∧ i + 2 ≤ l.length := by
        intro e r h
        have h1 : l.drop (i + 2) = (l.drop (i + 1)).drop 1 := by rw [List.drop_drop]
        have h2 : (l.drop (i + 1)).length = r.length + 1 := by rw [h]; rfl
        simp at h2
        exact ⟨by rw [h1, h]; rfl, by omega⟩
      cases hr : l.drop (i + 1) with
      | nil =>
        have hz : l.length = i + 1 := by have h2 : (l.drop (i + 1)).length = 0 := by rw [hr]; rfl
                                         simp at h2; omega
        rw [hdr, hr, remL]
        by_cases h92 : c = 92
        · refine Ev.go (fun k => by rw [step, if_pos h92]) ?_
          have := i2 d (by omega)
          rw [if_neg (by omega)] at this
          rw [← hz]; exact this
        · by_cases h40 : c = 40
          · refine Ev.go (fun k => by rw [step, if_neg h92, if_pos h40]) ?_
            have := i1 (d + 1) (by omega)
            rw [hr, remL] at this
            exact this
          · by_cases h41 : c = 41
            · by_cases h0 : d - 1 = 0
              · exact Ev.now (fun k => by rw [step, if_neg h92, if_neg h40, if_pos h41, if_pos h0])
              · refine Ev.go (fun k => by rw [step, if_neg h92, if_neg h40, if_pos h41, if_neg h0]) ?_
                have := i1 (d - 1) (by omega)
                rw [hr, remL] at this
                exact this
            · refine Ev.go (fun k => by rw [step, if_neg h92, if_neg h40, if_neg h41]) ?_
              have := i1 d (by omega)
              rw [hr, remL] at this
              exact this
      | cons e r =>
        obtain ⟨hr2, hz⟩ := ex e r hr
        rw [hdr, hr, remL]
        by_cases h92 : c = 92
        · rw [if_pos h92]
          refine Ev.go (fun k => by rw [step, if_pos h92]) ?_
          have := i2 d (by omega)
          rw [if_pos hz, hr2] at this
          rw [← Nat.add_assoc]; exact this
        · rw [if_neg h92]
          by_cases h40 : c = 40
          · rw [if_pos h40]
            refine Ev.go (fun k => by rw [step, if_neg h92, if_pos h40]) ?_
            have := i1 (d + 1) (by omega)
            rw [hr] at this
            rw [← Nat.add_assoc]; exact this
          · rw [if_neg h40]
            by_cases h41 : c = 41
            · rw [if_pos h41]
              by_cases h0 : d - 1 = 0
              · rw [if_pos h0]
                exact Ev.now (fun k => by rw [step, if_neg h92, if_neg h40, if_pos h41, if_pos h0])
              · rw [if_neg h0]
                refine Ev.go (fun k => by rw [step, if_neg h92, if_neg h40, if_pos h41, if_neg h0]) ?_
                have := i1 (d - 1) (by omega)
                rw [hr] at this
                rw [← Nat.add_assoc]; exact this
            · rw [if_neg h41]
              refine Ev.go (fun k => by rw [step, if_neg h92, if_neg h40, if_neg h41]) ?_
              have := i1 d (by omega)
              rw [hr] at this
              rw [← Nat.add_assoc]; exact this
    · have hz : ¬ (i : Int) < ((B l).size : Int) := by rw [bS]; omega
      refine Ev.now (fun k => ?_)
      rw [header_remark.l0, if_neg hz]
      by_cases h : i ≤ l.length
      · obtain rfl : i = l.length := by omega
        rw [if_pos h, List.drop_length, remL]; rfl
      · rw [if_neg h]; rfl
/-- What is read from a list on; the number bounds the rounds. -/
def adrL : Nat → List UInt8 → Bool → List UInt8 → ByteArray → Bool → Bool → List S33 → List S33
  | 0, _, _, _, _, _, _, out => out
  | _ + 1, [], _, bs, nm, an, _, out => finF out (endF bs nm an)
  | k + 1, c :: r, inb, bs, nm, an, cl, out =>
    if c = 34 then adrL k (r.drop (quoF r).2) inb (if cl then bs else bs ++ (quoF r).1) nm an cl out
    else if c = 40 then adrL k ((c :: r).drop (remL 0 (c :: r))) inb bs nm an cl out
    else if c = 60 ∧ inb = false then (if an = true then adrL k r true bs nm an cl out else adrL k r true [] ⟨(takeL bs).toArray⟩ true cl out)
    else if c = 62 ∧ inb = true then adrL k r false bs nm an true out
    else if c = 44 ∧ inb = false then adrL k r inb [] ⟨#[]⟩ false false (finF out (endF bs nm an))
    else adrL k r inb (if cl then bs else bs ++ [c]) nm an cl out
theorem adr_ev (l : List UInt8) (hl : l.length ≤ 1000000000) : ∀ (n i : Nat) (inb : Bool) (bs : List UInt8) (nm : ByteArray) (an cl : Bool) (out : List S33), (l.drop i).length < n →
    Ev (fun k => header_Addresses.l0 k (B l) i inb bs nm an cl out) (adrL n (l.drop i) inb bs nm an cl out) := by
  intro n
  induction n with
  | zero => intro i inb bs nm an cl out h; omega
  | succ n ih =>
    intro i inb bs nm an cl out hn
    by_cases hp : i < l.length
    · have hdr : l.drop i = l[i] :: l.drop (i + 1) := List.drop_eq_getElem_cons hp
      have hlen : (l.drop i).length = l.length - i := by simp
      have hlen1 : (l.drop (i + 1)).length = l.length - (i + 1) := by simp
      have hg : i < (B l).size := hp
      have hd1 : (l.drop (i + 1)).length < n := by omega
      have hcA := cAtB l i hp
      have hre := rem_ev l hl _ i 0 (Nat.le_refl _) (by omega) (by omega)
      rw [if_pos (by omega)] at hre
      have hrl := remL_le _ 0 (l.drop i) (Nat.le_refl _)
      obtain ⟨c, hc⟩ : ∃ c, c = l[i] := ⟨_, rfl⟩
      rw [← hc] at hdr hcA
      have hrem1 : 1 ≤ remL 0 (l.drop i) := hrl.2 (by rw [hdr]; simp)
      have step : ∀ k, header_Addresses.l0 (k + 1) (B l) i inb bs nm an cl out = (if c = 34 then header_Addresses.l0 k (B l) (i + 1 + (quoF (l.drop (i + 1))).2) inb (if cl then bs else bs ++ (quoF (l.drop (i + 1))).1) nm an cl out
          else if c = 40 then (header_remark.f k (B l) (i : Int)).bind fun t => (if (i : Int) < t then (if t ≤ ((B l).size : Int) then header_Addresses.l0 k (B l) t.toNat inb bs nm an cl out else none) else none)
          else if c = 60 ∧ inb = false then (if an = true then header_Addresses.l0 k (B l) (i + 1) true bs nm an cl out else header_Addresses.l0 k (B l) (i + 1) true [] ⟨(takeL bs).toArray⟩ true cl out)
          else if c = 62 ∧ inb = true then header_Addresses.l0 k (B l) (i + 1) false bs nm an true out
          else if c = 44 ∧ inb = false then header_Addresses.l0 k (B l) (i + 1) inb [] ⟨#[]⟩ false false (finF out (endF bs nm an))
          else header_Addresses.l0 k (B l) (i + 1) inb (if cl then bs else bs ++ [c]) nm an cl out) := by
        intro k
        rw [header_Addresses.l0, if_pos hg, hcA]
      have hq := quoF_len _ (l.drop (i + 1)) (Nat.le_refl _)
      rw [show adrL (n + 1) (l.drop i) inb bs nm an cl out = adrL (n + 1) (c :: l.drop (i + 1)) inb bs nm an cl out by rw [hdr], adrL]
      by_cases h34 : c = 34
      · rw [if_pos h34]
        refine Ev.go (fun k => by rw [step, if_pos h34]) ?_
        rw [List.drop_drop]
        exact ih _ _ _ _ _ _ _ (by simp; omega)
      · rw [if_neg h34]
        by_cases h40 : c = 40
        · rw [if_pos h40]
          refine Ev.go (fun k => by rw [step, if_neg h34, if_pos h40]) ?_
          refine Ev.bd hre ?_
          have g1 : (i : Int) < ((i + remL 0 (l.drop i) : Nat) : Int) := by omega
          have g2 : ((i + remL 0 (l.drop i) : Nat) : Int) ≤ ((B l).size : Int) := by rw [bS]; omega
          simp only [if_pos g1, if_pos g2, Int.toNat_natCast]
          rw [← hdr, List.drop_drop]
          exact ih _ _ _ _ _ _ _ (by simp; omega)
        · rw [if_neg h40]
          by_cases h60 : c = 60 ∧ inb = false
          · rw [if_pos h60]
            by_cases ha : an = true
            · rw [if_pos ha]
              exact Ev.go (fun k => by rw [step, if_neg h34, if_neg h40, if_pos h60, if_pos ha]) (ih _ _ _ _ _ _ _ hd1)
            · rw [if_neg ha]
              exact Ev.go (fun k => by rw [step, if_neg h34, if_neg h40, if_pos h60, if_neg ha]) (ih _ _ _ _ _ _ _ hd1)
          · rw [if_neg h60]
            by_cases h62 : c = 62 ∧ inb = true
            · rw [if_pos h62]
              exact Ev.go (fun k => by rw [step, if_neg h34, if_neg h40, if_neg h60, if_pos h62]) (ih _ _ _ _ _ _ _ hd1)
            · rw [if_neg h62]
              by_cases h44 : c = 44 ∧ inb = false
              · rw [if_pos h44]
                exact Ev.go (fun k => by rw [step, if_neg h34, if_neg h40, if_neg h60, if_neg h62, if_pos h44]) (ih _ _ _ _ _ _ _ hd1)
              · rw [if_neg h44]
                exact Ev.go (fun k => by rw [step, if_neg h34, if_neg h40, if_neg h60, if_neg h62, if_neg h44]) (ih _ _ _ _ _ _ _ hd1)
    · have hg : ¬ i < (B l).size := hp
      have hnil : l.drop i = [] := List.drop_eq_nil_iff.2 (by omega)
      rw [hnil, adrL]
      exact Ev.now (fun k => by rw [header_Addresses.l0, if_neg hg])
/-- The addresses of a text. -/
def adrs (l : List UInt8) : List S33 := adrL (l.length + 1) l false [] ⟨#[]⟩ false false []
theorem adrs_ev (l : List UInt8) (hl : l.length ≤ 1000000000) : Ev (fun k => header_Addresses.f k (B l)) (adrs l) := by
  refine Ev.same (fun k => ?_) (adr_ev l hl (l.length + 1) 0 false [] ⟨#[]⟩ false false [] (by simp))
  rw [header_Addresses.f, if_pos (by rw [bS]; exact hl)]
end Go.Proofs.YtkngjdhggcaonaaDoor.Pure
