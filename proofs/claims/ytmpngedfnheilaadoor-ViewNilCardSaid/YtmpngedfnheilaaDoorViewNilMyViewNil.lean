/- YtmpngedfnheilaaDoorMyViewNil, as far as ViewNil needs it (prune.py). -/
import Derived.Test.YtmpngedfnheilaaDoorViewNilMyViewU
import Derived.Test.YtmpngedfnheilaaDoorViewNilKindsPP
namespace Go.Proofs.YtmpngedfnheilaaDoor.PP
open Go.RowKit Go.Proofs.YtmpngedfnheilaaDoorW.PrintWords Go.Proofs.YtmpngedfnheilaaDoorW.PrintLast Go.Proofs.YtmpngedfnheilaaDoorW.PrintMore
open Go.Proofs.YtmpngedfnheilaaDoor.My
set_option linter.unusedVariables false
set_option linter.unusedSimpArgs false
set_option maxHeartbeats 8000000 in
set_option maxRecDepth 100000 in
theorem haversacklaw18_ViewNil.holds (a0 : Int) (A1 : Option Addr) (c1 : Nat) (l1 : List S43) (w : World) (w0 : (Lit.int .i64 a0).wf = true) (hr1 : Kd.C k43 w A1 l1.length l1) (hc1 : l1.length ≤ c1) (m1 : l1.length ≤ maxLen) (q1 : ∀ z ∈ l1, Q43 z) :
    Calls Tryd.prog 6 #[.int .i64 a0, .slice A1 l1.length c1] w fun e w' => e = .returned (.bool true) ∧ Below w.heap.size w w' := by
  have HB := Aside0.mk (Below.refl w.heap.size w)
  clear w0 hr1 hc1 m1 q1
  go_enter Tryd.func6, Tryd.ntmps6
  go_wp2_with fail
  refine (nilNote_ok a0 _ _).mono ?_
  rintro e w1 ⟨rfl, n1, rfl⟩
  replace HB := Aside0.mk (pw_below_drewN HB.out n1)
  generalize World.drewN _ n1 = W at HB ⊢
  go_wp2_with fail
  refine (nilCopy_ok _).mono ?_
  rintro e w1 ⟨rfl, n1, rfl⟩
  replace HB := Aside0.mk (pw_below_drewN HB.out n1)
  generalize World.drewN _ n1 = W at HB ⊢
  go_wp2_with fail
  refine (nilSync_ok false _ _).mono ?_
  rintro e w1 ⟨rfl, n1, rfl⟩
  replace HB := Aside0.mk (pw_below_drewN HB.out n1)
  generalize World.drewN _ n1 = W at HB ⊢
  go_wp2_with fail
  refine (nilCount_ok _).mono ?_
  rintro e w1 ⟨rfl, n1, rfl⟩
  replace HB := Aside0.mk (pw_below_drewN HB.out n1)
  generalize World.drewN _ n1 = W at HB ⊢
  go_wp2_with fail
  refine (nilUID_ok a0 _).mono ?_
  rintro e w1 ⟨rfl, n1, rfl⟩
  replace HB := Aside0.mk (pw_below_drewN HB.out n1)
  generalize World.drewN _ n1 = W at HB ⊢
  go_wp2_with fail
  refine (nilPlace_ok a0 _).mono ?_
  rintro e w1 ⟨rfl, n1, rfl⟩
  replace HB := Aside0.mk (pw_below_drewN HB.out n1)
  generalize World.drewN _ n1 = W at HB ⊢
  go_wp2_with fail
  refine (nilMax_ok _).mono ?_
  rintro e w1 ⟨rfl, n1, rfl⟩
  replace HB := Aside0.mk (pw_below_drewN HB.out n1)
  generalize World.drewN _ n1 = W at HB ⊢
  go_wp2_with fail
  refine (nilUIDs_ok _).mono ?_
  rintro e w1 ⟨rfl, n1, rfl⟩
  replace HB := Aside0.mk (pw_below_drewN HB.out n1)
  generalize World.drewN _ n1 = W at HB ⊢
  go_wp2_with fail
  refine (alive_ok _).mono ?_
  rintro e w1 ⟨rfl, hb⟩
  replace HB := Aside0.mk (HB.out.trans (hb.mono HB.out.size))
  clear hb
  go_wp2_with fail
  go_ret
  exact ⟨rfl, HB.out⟩
end Go.Proofs.YtmpngedfnheilaaDoor.PP
