/- YtkngjdhggcaonaaDoorMyScope, as far as HeaderEnvelopes needs it (prune.py). -/
import Derived.ScopeJumps
import Derived.WalkMore
namespace Go
/-- As Q; by a goto to l0: J0; to l1: J1; by any other goto: no way out. -/
def Exit.two (l0 l1 : Nat) (J0 J1 : Act → World → Prop) (Q : Exit → Act → World → Prop) : Exit → Act → World → Prop
  | .goto l, a, w => (l = l0 ∧ J0 a w) ∨ (l = l1 ∧ J1 a w)
  | e, a, w => Q e a w
section
variable {P : Program} {a : Act} {w : World} {Q : Exit → Act → World → Prop}
theorem Exit.two_goto1 {l0 l1 : Nat} {J0 J1 : Act → World → Prop} (h : J1 a w) : Exit.two l0 l1 J0 J1 Q (.goto l1) a w := Or.inr ⟨rfl, h⟩
theorem Exit.two_goto0 {l0 l1 : Nat} {J0 J1 : Act → World → Prop} (h : J0 a w) : Exit.two l0 l1 J0 J1 Q (.goto l0) a w := Or.inl ⟨rfl, h⟩
theorem wp_scope_two {c X Y : Code} (l0 l1 : Nat) (J0 : Act → World → Prop) (J1 : Nat → Act → World → Prop) (hf0 : findLabel c l0 = some (.seq .skip Y)) (hf1 : findLabel c l1 = some (.seq .skip X))
    (fin : ∀ a w, J0 a w → Y.wp P (Exit.noGoto Q) a w)
    (pass : ∀ n a w, J1 n a w → X.wp P (Exit.two l0 l1 J0 (fun a' w' => ∃ m, m < n ∧ J1 m a' w') Q) a w)
    (first : (∀ n a w, J1 n a w → X.wp P (Exit.two l0 l1 J0 (fun a' w' => ∃ n, J1 n a' w') Q) a w) → c.wp P (Exit.two l0 l1 J0 (fun a' w' => ∃ n, J1 n a' w') Q) a w) : (Code.scope c).wp P Q a w := by
  intro b k cs
  have hg0 : gotoIn l0 (.inScope c :: k) = some (.code (.seq .skip Y) :: .inScope c :: k) := by simp [gotoIn, hf0]
  have hg1 : gotoIn l1 (.inScope c :: k) = some (.code (.seq .skip X) :: .inScope c :: k) := by simp [gotoIn, hf1]
  have skipped : ∀ {Z : Code} {R : Exit → Act → World → Prop} {a : Act} {w : World}, Z.wp P R a w → (Code.seq .skip Z).wp P R a w := fun h => wp_seq (wp_skip h)
  have key0 : ∀ a w, J0 a w → ∃ e a' w', Q e a' w' ∧ Arrives P (lone (b.at a (.code (.seq .skip Y) :: .inScope c :: k)) cs w) b k cs e a' w' := by
    intro a w hJ
    obtain ⟨e, a₁, w₁, hq, harr⟩ := skipped (fin a w hJ) b (.inScope c :: k) cs
    cases e with
    | normal => exact ⟨.normal, a₁, w₁, hq, Steps.trans harr (.one step_inScope)⟩
    | exit id => exact ⟨.exit id, a₁, w₁, hq, fun k' hk => harr k' (by simp [exitTo, hk])⟩
    | goto l' => exact hq.elim
    | ret => exact ⟨_, a₁, w₁, hq, harr⟩
    | panic ch => exact ⟨_, a₁, w₁, hq, harr⟩
    | outgrown => exact ⟨_, a₁, w₁, hq, harr⟩
  have key1 : ∀ n a w, J1 n a w → ∃ e a' w', Q e a' w' ∧ Arrives P (lone (b.at a (.code (.seq .skip X) :: .inScope c :: k)) cs w) b k cs e a' w' := by
    intro n
    induction n using Nat.strongRecOn with
    | _ n ih =>
      intro a w hJ
      obtain ⟨e, a₁, w₁, hq, harr⟩ := skipped (pass n a w hJ) b (.inScope c :: k) cs
      cases e with
      | normal => exact ⟨.normal, a₁, w₁, hq, Steps.trans harr (.one step_inScope)⟩
      | exit id => exact ⟨.exit id, a₁, w₁, hq, fun k' hk => harr k' (by simp [exitTo, hk])⟩
      | goto l' =>
        rcases hq with ⟨rfl, hJ'⟩ | ⟨rfl, m, hm, hJ'⟩
        · obtain ⟨e₂, a₂, w₂, hq₂, harr₂⟩ := key0 a₁ w₁ hJ'
          exact ⟨e₂, a₂, w₂, hq₂, .of_steps (harr _ hg0) harr₂⟩
        · obtain ⟨e₂, a₂, w₂, hq₂, harr₂⟩ := ih m hm a₁ w₁ hJ'
          exact ⟨e₂, a₂, w₂, hq₂, .of_steps (harr _ hg1) harr₂⟩
      | ret => exact ⟨_, a₁, w₁, hq, harr⟩
      | panic ch => exact ⟨_, a₁, w₁, hq, harr⟩
      | outgrown => exact ⟨_, a₁, w₁, hq, harr⟩
  have hfirst := first (fun n a w hJ => wp_mono (pass n a w hJ) (fun e a' w' hq => by
    cases e with
    | goto l' => exact hq.imp id (fun h => ⟨h.1, h.2.imp fun m hm => hm.2⟩)
    | normal => exact hq
    | exit id => exact hq
    | ret => exact hq
    | panic ch => exact hq
    | outgrown => exact hq))
  obtain ⟨e, a₁, w₁, hq, harr⟩ := hfirst b (.inScope c :: k) cs
  cases e with
  | normal => exact ⟨.normal, a₁, w₁, hq, .head step_scope (Steps.trans harr (.one step_inScope))⟩
  | exit id => exact ⟨.exit id, a₁, w₁, hq, fun k' hk => .head step_scope (harr k' (by simp [exitTo, hk]))⟩
  | goto l' =>
    rcases hq with ⟨rfl, hJ'⟩ | ⟨rfl, n, hJ'⟩
    · obtain ⟨e₂, a₂, w₂, hq₂, harr₂⟩ := key0 a₁ w₁ hJ'
      exact ⟨e₂, a₂, w₂, hq₂, .of_steps (.head step_scope (harr _ hg0)) harr₂⟩
    · obtain ⟨e₂, a₂, w₂, hq₂, harr₂⟩ := key1 n a₁ w₁ hJ'
      exact ⟨e₂, a₂, w₂, hq₂, .of_steps (.head step_scope (harr _ hg1)) harr₂⟩
  | ret => exact ⟨_, a₁, w₁, hq, .of_steps (.one step_scope) harr⟩
  | panic ch => exact ⟨_, a₁, w₁, hq, .of_steps (.one step_scope) harr⟩
  | outgrown => exact ⟨_, a₁, w₁, hq, .of_steps (.one step_scope) harr⟩
end
end Go
