/- YtmpngedfnheilaaDoorMyViewH, as far as ViewTells needs it (prune.py). -/
import Derived.Test.YtmpngedfnheilaaDoorViewTellsMyViewG
namespace Go.Proofs.YtmpngedfnheilaaDoor.PP
open Go.RowKit Go.Proofs.YtmpngedfnheilaaDoorW.PrintWords Go.Proofs.YtmpngedfnheilaaDoorW.PrintLast Go.Proofs.YtmpngedfnheilaaDoorW.PrintMore
open Go.Proofs.YtmpngedfnheilaaDoor.My
set_option linter.unusedVariables false
set_option linter.unusedSimpArgs false
theorem addr0 (r m : Nat) : (⟨r, 0, none⟩ : Addr).add m = ⟨r, m, none⟩ := by
  unfold Addr.add
  split <;> simp_all
/-- A place's flags are set anew, in the row. -/
theorem PRow.setFlags {N0 base r n cap : Nat} {W : World} {l : List Pl} (h : PRow W N0 (.slice (some ⟨r, 0, none⟩) n cap) l) (i : Nat) (hi : i < l.length) {vf : Value} {fs : List ByteArray} (hf : Kd.R Kd.string 9 W base (fun _ => True) vf fs) :
    PRow (W.setCell ⟨r, i * 2 + 1, none⟩ vf) N0 (.slice (some ⟨r, 0, none⟩) n cap) (l.set i ⟨(rd_T74 l i).f0, fs⟩) ∧ W.grownBy (W.setCell ⟨r, i * 2 + 1, none⟩ vf) (some r) := by
  obtain ⟨hn, _, hC⟩ := Kd.N_reads' h
  obtain ⟨ad, A1, c1, e, hx0, hx1, _, _⟩ := at_T74 hC (i : Int) (by omega) (by omega)
  obtain rfl := (Option.some.inj e)
  rw [Int.toNat_natCast, addr0] at hx0 hx1
  have hne : ∀ k, T9 W k → k ≠ r := fun k hk e => h.ne9 hk (by rw [e]; simp [Value.ownBlock])
  obtain ⟨h1, h2⟩ := Kd.N_seg h (i : Int) (by omega) (by omega) (c := [.int .i64 (rd_T74 l i).f0, .slice A1 (rd_T74 l i).f1.length c1]) (seg := [vf]) (j := 1) (x' := ⟨(rd_T74 l i).f0, fs⟩) (okp := T9 W) rfl (fun j u hu => by
      rcases j with _ | _ | j
      · simp only [List.getElem?_cons_zero, Option.some.injEq] at hu
        rw [← hu]
        exact hx0
      · simp only [List.getElem?_cons_succ, List.getElem?_cons_zero, Option.some.injEq] at hu
        rw [← hu]
        exact hx1
      · simp at hu) (Nat.le_refl 2) (FK9_mk hf) (fun k hk => ⟨.inl hk, hne k hk⟩)
  rw [Int.toNat_natCast] at h1 h2
  have hh : ∀ k, k ≠ r → (W.setCell ⟨r, i * 2 + 1, none⟩ vf).heap[k]? = W.heap[k]? := fun k hk => Below.heap_setCell W ⟨r, i * 2 + 1, none⟩ vf k hk
  exact ⟨Kd.N_mono h1 (fun k hk => hk.imp (fun ⟨c, hc⟩ => ⟨c, (hh k (hne k ⟨c, hc⟩)).trans hc⟩) id), h2⟩
end Go.Proofs.YtmpngedfnheilaaDoor.PP
