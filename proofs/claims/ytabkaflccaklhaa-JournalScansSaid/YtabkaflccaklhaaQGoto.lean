/- A scope with one label that is jumped back to, and others that are jumped on to. -/
import Derived.Test.YtabkaflccaklhaaQBase1
import Derived.WalkMore
import Derived.ScopeJumps
set_option linter.unusedSimpArgs false
set_option linter.unusedVariables false
namespace Go
section
variable {P : Program} {a : Act} {w : World} {Q : Exit → Act → World → Prop}
theorem into_K {c : Code} {K : Act → World → Prop} (h : ∀ a w, c.wp P Q a w → K a w) (h2 : c.wp P Q a w) : K a w := h a w h2
/-- As Q; by a goto to label l: J; by another one: on from there, without a goto. -/
def Exit.back (P : Program) (c : Code) (l : Nat) (J : Act → World → Prop) (Q : Exit → Act → World → Prop) : Exit → Act → World → Prop
  | .goto l', a, w => (l' = l ∧ J a w) ∨ ∃ rest, findLabel c l' = some rest ∧ rest.wp P (Exit.noGoto Q) a w
  | e, a, w => Q e a w
theorem Exit.back_mono {c : Code} {l : Nat} {J J' : Act → World → Prop} (h : ∀ a w, J a w → J' a w) : ∀ e a w, Exit.back P c l J Q e a w → Exit.back P c l J' Q e a w := by
  intro e a w hh
  cases e with
  | goto l' => exact hh.imp (fun ⟨e, k⟩ => ⟨e, h _ _ k⟩) id
  | _ => exact hh
theorem wp_scope_back {c r : Code} (l : Nat) (J : Act → World → Prop) (μ : Act → World → Nat) (hf0 : findLabel c l = some (Code.skip.seq r))
    (pass0 : ∀ a w, J a w → r.wp P (Exit.back P c l (fun a' w' => J a' w' ∧ μ a' w' < μ a w) Q) a w)
    (first : (∀ a w, J a w → r.wp P (Exit.back P c l J Q) a w) → c.wp P (Exit.back P c l J Q) a w) : (Code.scope c).wp P Q a w := by
  obtain ⟨rest, hf, pass⟩ : ∃ rest, findLabel c l = some rest ∧ ∀ a w, J a w → rest.wp P (Exit.back P c l (fun a' w' => J a' w' ∧ μ a' w' < μ a w) Q) a w :=
    ⟨_, hf0, fun a w hJ => wp_seq (wp_skip (pass0 a w hJ))⟩
  intro b k cs
  have hg : ∀ l' r, findLabel c l' = some r → gotoIn l' (.inScope c :: k) = some (.code r :: .inScope c :: k) := fun l' r h => by simp [gotoIn, h]
  -- on from a label without a goto
  have on : ∀ (r : Code) a w, r.wp P (Exit.noGoto Q) a w → ∃ e a' w', Q e a' w' ∧ Arrives P (lone (b.at a (.code r :: .inScope c :: k)) cs w) b k cs e a' w' := by
    intro r a w h
    obtain ⟨e, a₁, w₁, hq, harr⟩ := h b (.inScope c :: k) cs
    cases e with
    | normal => exact ⟨.normal, a₁, w₁, hq, Steps.trans harr (.one step_inScope)⟩
    | exit id => exact ⟨.exit id, a₁, w₁, hq, fun k' hk => harr k' (by simp [exitTo, hk])⟩
    | goto l => exact hq.elim
    | ret => exact ⟨_, a₁, w₁, hq, harr⟩
    | panic ch => exact ⟨_, a₁, w₁, hq, harr⟩
    | outgrown => exact ⟨_, a₁, w₁, hq, harr⟩
  have key : ∀ n a w, μ a w = n → J a w → ∃ e a' w', Q e a' w' ∧ Arrives P (lone (b.at a (.code rest :: .inScope c :: k)) cs w) b k cs e a' w' := by
    intro n
    induction n using Nat.strongRecOn with
    | _ n ih =>
      intro a w hn hJ
      obtain ⟨e, a₁, w₁, hq, harr⟩ := pass a w hJ b (.inScope c :: k) cs
      cases e with
      | normal => exact ⟨.normal, a₁, w₁, hq, Steps.trans harr (.one step_inScope)⟩
      | exit id => exact ⟨.exit id, a₁, w₁, hq, fun k' hk => harr k' (by simp [exitTo, hk])⟩
      | goto l' =>
        rcases hq with ⟨rfl, hJ', hlt⟩ | ⟨r, hr, hw⟩
        · obtain ⟨e₂, a₂, w₂, hq₂, harr₂⟩ := ih _ (by omega) a₁ w₁ rfl hJ'
          exact ⟨e₂, a₂, w₂, hq₂, .of_steps (harr _ (hg _ _ hf)) harr₂⟩
        · obtain ⟨e₂, a₂, w₂, hq₂, harr₂⟩ := on r a₁ w₁ hw
          exact ⟨e₂, a₂, w₂, hq₂, .of_steps (harr _ (hg _ _ hr)) harr₂⟩
      | ret => exact ⟨_, a₁, w₁, hq, harr⟩
      | panic ch => exact ⟨_, a₁, w₁, hq, harr⟩
      | outgrown => exact ⟨_, a₁, w₁, hq, harr⟩
  obtain ⟨e, a₁, w₁, hq, harr⟩ := first (fun a w hJ => Code.wp_mono (Exit.back_mono fun a' w' h => h.1) (pass0 a w hJ)) b (.inScope c :: k) cs
  cases e with
  | normal => exact ⟨.normal, a₁, w₁, hq, .head step_scope (Steps.trans harr (.one step_inScope))⟩
  | exit id => exact ⟨.exit id, a₁, w₁, hq, fun k' hk => .head step_scope (harr k' (by simp [exitTo, hk]))⟩
  | goto l' =>
    rcases hq with ⟨rfl, hJ'⟩ | ⟨r, hr, hw⟩
    · obtain ⟨e₂, a₂, w₂, hq₂, harr₂⟩ := key _ a₁ w₁ rfl hJ'
      exact ⟨e₂, a₂, w₂, hq₂, .of_steps (.head step_scope (harr _ (hg _ _ hf))) harr₂⟩
    · obtain ⟨e₂, a₂, w₂, hq₂, harr₂⟩ := on r a₁ w₁ hw
      exact ⟨e₂, a₂, w₂, hq₂, .of_steps (.head step_scope (harr _ (hg _ _ hr))) harr₂⟩
  | ret => exact ⟨_, a₁, w₁, hq, .of_steps (.one step_scope) harr⟩
  | panic ch => exact ⟨_, a₁, w₁, hq, .of_steps (.one step_scope) harr⟩
  | outgrown => exact ⟨_, a₁, w₁, hq, .of_steps (.one step_scope) harr⟩
end
end Go
