import Derived.Test.YtkngjdhggcaonaaDoorPPx37
import Derived.Test.YtkngjdhggcaonaaDoorMyHeadG
import Derived.Test.YtkngjdhggcaonaaDoorStmtHeaderGets
namespace Go.Proofs.YtkngjdhggcaonaaDoor.Pure
open Go.RowKit Go.Proofs.YtkngjdhggcaonaaDoor.PP Go.Proofs.YtkngjdhggcaonaaDoor.My Go.Proofs.YtkngjdhggcaonaaDoorW.PrintWords Go.Proofs.YtkngjdhggcaonaaDoorW.PrintLast
set_option linter.unusedVariables false
set_option linter.unusedSimpArgs false
theorem mn_le (a b : Int) : mn a b ≤ b ∧ mn a b ≤ a ∧ (mn a b = a ∨ mn a b = b) := by
  unfold mn
  split <;> omega
theorem few_ev (names : List (List UInt8)) : ∃ b, Ev (fun k => haversacklaw10_few.f k (Bs names)) b ∧ (b = true → names.length ≤ 30) := by
  have key : ∀ (n i : Nat) (x : Int), 32 - i ≤ n → i ≤ 31 → 0 ≤ x → x ≤ 2000 * (i : Int) → ∃ b, Ev (fun k => haversacklaw10_few.l0 k (Bs names) x (i : Int)) b ∧ (b = true → names.length ≤ 30) := by
    intro n
    induction n with
    | zero => intro i x h1 h2; omega
    | succ n ih =>
      intro i x h1 h2 h3 h4
      have stop : ∃ b, (if ((Bs names).length : Int) ≤ 30 then some (decide (x ≤ 1500)) else some false) = some b ∧ (b = true → names.length ≤ 30) := by
        by_cases h : ((Bs names).length : Int) ≤ 30
        · refine ⟨_, if_pos h, fun _ => ?_⟩
          rw [List.length_map] at h
          omega
        · exact ⟨false, if_neg h, fun h => by cases h⟩
      obtain ⟨b, hb, hbn⟩ := stop
      by_cases hp : (i : Int) < ((Bs names).length : Int)
      · by_cases h30 : (i : Int) ≤ 30
        · have g0 : (0 : Int) ≤ (i : Int) := by omega
          have hm := mn_le ((rdOf ByteArray.empty (Bs names) (i : Int)).size : Int) 2000
          obtain ⟨y, hy⟩ : ∃ y, y = mn ((rdOf ByteArray.empty (Bs names) (i : Int)).size : Int) 2000 := ⟨_, rfl⟩
          rw [← hy] at hm
          have hy0 : 0 ≤ y := by omega
          obtain ⟨b', hb', hn'⟩ := ih (i + 1) (x + y) (by omega) (by omega) (by omega) (by omega)
          have w1 : Wp ((i : Int) + 1) ((i + 1 : Nat) : Int) := ⟨w64 (x := (i : Int) + 1) (by omega)⟩
          have w2 : Wp (x + y) (x + y) := ⟨w64 (x := x + y) (by omega)⟩
          exact ⟨b', Ev.go (fun k => by rw [haversacklaw10_few.l0, if_pos hp, if_pos h30, if_pos g0, ← hy, w2.e, w1.e]) hb', hn'⟩
        · exact ⟨b, Ev.now (fun k => by rw [haversacklaw10_few.l0, if_pos hp, if_neg h30, hb]), hbn⟩
      · exact ⟨b, Ev.now (fun k => by rw [haversacklaw10_few.l0, if_neg hp, hb]), hbn⟩
  exact key 32 0 0 (by omega) (by omega) (by omega) (by omega)
theorem HeaderGets : haversacklaw10_HeaderGets.Pure2 := by
  intro a0 l1 nt l3 _ _ hq _ hz
  obtain ⟨s, rfl⟩ := isB a0
  obtain ⟨L, rfl⟩ := isfB l1
  obtain ⟨names, rfl⟩ := isBs l3
  have hnm : ∀ x ∈ names, x.length ≤ 9223372036854775807 := by
    intro x hx
    have := hz (B x) (List.mem_map.2 ⟨x, hx, rfl⟩)
    rw [bS] at this
    unfold maxLen at this
    omega
  clear hz hq
  have yes : Ev (fun k => haversacklaw10_HeaderGets.j2 k (B s) (fB L) nt (Bs names) true) true :=
    Ev.go (fun k => by rw [haversacklaw10_HeaderGets.j2, if_pos rfl]) (Ev.bd alive_ev (Ev.ret true))
  have no : s.length ≤ 1000000000 → Fit L names → Ev (fun k => haversacklaw10_HeaderGets.j2 k (B s) (fB L) nt (Bs names) false) true := by
    intro hs hf
    have hl := getL_len L names
    have hfew := hf.few
    refine Ev.go (fun k => by rw [haversacklaw10_HeaderGets.j2, if_neg (by decide), unfold_f s hs, Option.bind_some]) ?_
    refine Ev.bd (Unfold_f_ev s hs) ?_
    simp only [if_true]
    refine Ev.bd (Get_f_ev L names hf) ?_
    refine Ev.bd (RGet_f_ev L names hf) ?_
    refine Ev.bd (texts_ev _ (by rw [List.length_map]; omega)) ?_
    simp only [if_true]
    refine Ev.bd (Only_f_ev s hs nt names hf.count hf.name) ?_
    refine Ev.bd (ROnly_f_ev s hs nt names hf.count hf.name) ?_
    simp only [if_true]
    exact Ev.bd alive_ev (Ev.ret true)
  have j1 : ∀ x : Int, (x ≤ 4000 → L.length ≤ 100 → ∀ p ∈ L, p.1.length ≤ 1000000000 ∧ p.2.length ≤ 1000000000) → Ev (fun k => haversacklaw10_HeaderGets.j1 k (B s) (fB L) nt (Bs names) x) true := by
    intro x hx
    by_cases h1 : ((B s).size : Int) > 4000
    · exact Ev.go (fun k => by rw [haversacklaw10_HeaderGets.j1, if_pos h1]) yes
    · by_cases h2 : ((fB L).length : Int) > 100
      · exact Ev.go (fun k => by rw [haversacklaw10_HeaderGets.j1, if_neg h1, if_pos h2]) yes
      · by_cases h3 : x > 4000
        · exact Ev.go (fun k => by rw [haversacklaw10_HeaderGets.j1, if_neg h1, if_neg h2, if_pos h3]) yes
        · refine Ev.go (fun k => by rw [haversacklaw10_HeaderGets.j1, if_neg h1, if_neg h2, if_neg h3]) ?_
          obtain ⟨b, hb, hbn⟩ := few_ev names
          refine Ev.bd hb ?_
          rw [List.length_map] at h2
          rw [bS] at h1
          cases b with
          | false => exact yes
          | true =>
            have := hbn rfl
            exact no (by omega) ⟨by omega, hx (by omega) (by omega), by omega, hnm⟩
  have key : ∀ (n i : Nat) (x : Int), 102 - i ≤ n → i ≤ 101 → 0 ≤ x → x ≤ 10000 * (i : Int) → (∀ (j : Nat) (h : j < L.length), j < i → x ≤ 4000 → L[j].1.length ≤ 1000000000 ∧ L[j].2.length ≤ 1000000000) → Ev (fun k => haversacklaw10_HeaderGets.l0 k (B s) (fB L) nt (Bs names) x (i : Int)) true := by
    intro n
    induction n with
    | zero => intro i x h1 h2; omega
    | succ n ih =>
      intro i x h1 h2 h3 h4 h5
      by_cases hp : (i : Int) < ((fB L).length : Int)
      · by_cases h100 : (i : Int) ≤ 100
        · have g0 : (0 : Int) ≤ (i : Int) := by omega
          have hi : i < L.length := by rw [List.length_map] at hp; omega
          have hrd : rd_T37 (fB L) (i : Int) = ⟨B L[i].1, B L[i].2⟩ := by
            unfold rd_T37
            rw [Int.toNat_natCast]
            simp [List.getD_eq_getElem?_getD, hi]
          have hm0 := mn_le ((L[i].1.length : Nat) : Int) 5000
          have hm1 := mn_le ((L[i].2.length : Nat) : Int) 5000
          obtain ⟨y, hy⟩ : ∃ y, y = mn ((L[i].1.length : Nat) : Int) 5000 := ⟨_, rfl⟩
          obtain ⟨z, hz⟩ : ∃ z, z = mn ((L[i].2.length : Nat) : Int) 5000 := ⟨_, rfl⟩
          rw [← hy] at hm0
          rw [← hz] at hm1
          have hy0 : 0 ≤ y := by omega
          have hz0 : 0 ≤ z := by omega
          have next := ih (i + 1) (x + y + z) (by omega) (by omega) (by omega) (by omega) (by
            intro j hj hji hxx
            by_cases hji2 : j < i
            · exact h5 j hj hji2 (by omega)
            · obtain rfl : j = i := by omega
              omega)
          have w1 : Wp ((i : Int) + 1) ((i + 1 : Nat) : Int) := ⟨w64 (x := (i : Int) + 1) (by omega)⟩
          have w2 : Wp (x + y) (x + y) := ⟨w64 (x := x + y) (by omega)⟩
          have w3 : Wp (x + y + z) (x + y + z) := ⟨w64 (x := x + y + z) (by omega)⟩
          refine Ev.go (fun k => by
            rw [haversacklaw10_HeaderGets.l0, if_pos hp, if_pos h100, if_pos g0, hrd]
            show haversacklaw10_HeaderGets.l0 k (B s) (fB L) nt (Bs names) (wrap64 (wrap64 (x + mn ((L[i].1.length : Nat) : Int) 5000) + mn ((L[i].2.length : Nat) : Int) 5000)) (wrap64 ((i : Int) + 1)) = _
            rw [← hy, ← hz, w2.e, w3.e, w1.e]) next
        · refine Ev.go (fun k => by rw [haversacklaw10_HeaderGets.l0, if_pos hp, if_neg h100]) (j1 x ?_)
          intro hx hl
          rw [List.length_map] at hp
          omega
      · refine Ev.go (fun k => by rw [haversacklaw10_HeaderGets.l0, if_neg hp]) (j1 x ?_)
        intro hx hl p hpm
        rw [List.length_map] at hp
        obtain ⟨j, hj, rfl⟩ := List.getElem_of_mem hpm
        exact h5 j hj (by omega) hx
  obtain ⟨K, hK⟩ := key 102 0 0 (by omega) (by omega) (by omega) (by omega) (by intro j h hj; omega)
  exact ⟨K, hK K (Nat.le_refl _)⟩
end Go.Proofs.YtkngjdhggcaonaaDoor.Pure
