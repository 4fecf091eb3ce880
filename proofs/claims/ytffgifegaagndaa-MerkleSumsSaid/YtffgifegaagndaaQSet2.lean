/- Joined: QSetL QSetT. -/
import Derived.Test.YtffgifegaagndaaQSet1
import Derived.Test.YtffgifegaagndaaQIdx1
set_option linter.unusedSimpArgs false
set_option linter.unusedVariables false
section
/- The law IdSets: walk. -/
namespace Go.Proofs.Ytffgifegaagndaa
open Go.RowKit
open Go.Qk hiding rotr b4
set_option maxHeartbeats 2000000
set_option maxRecDepth 100000
theorem mem_onlyL (a b : List IdL) (h : Bool) (x : IdL) : x ∈ onlyL a b h ↔ x ∈ a ∧ (decide (x ∈ b) = h) := by
  unfold onlyL
  rw [List.mem_filter]
  have : hasL b x = decide (x ∈ b) := by simp [hasL]
  rw [this]
  simp
theorem onlyL_rises {a b : List IdL} {h : Bool} (ha : Rises a) : Rises (onlyL a b h) := List.Pairwise.filter _ ha
theorem union_law (a b : List IdL) (ha : Rises a) (hb : Rises b) (h1 : ∀ s ∈ a, s.length = 32) (h2 : ∀ s ∈ b, s.length = 32) : unionL a b = sortL (a ++ b) := by
  obtain ⟨r1, r2⟩ := merge_law (fun _ _ => true) (a.length + b.length) a b (Nat.le_refl _) ha hb h1 h2
  have h12 : ∀ s ∈ a ++ b, s.length = 32 := fun s hs => (List.mem_append.1 hs).elim (h1 s) (h2 s)
  refine rises_ext _ _ r1 (sortL_rises _ h12) fun x => ?_
  unfold unionL
  rw [r2 x, mem_sortL _ h12, List.mem_append]
  simp
theorem minus_law (a b : List IdL) (ha : Rises a) (hb : Rises b) (h1 : ∀ s ∈ a, s.length = 32) (h2 : ∀ s ∈ b, s.length = 32) : minusL a b = onlyL a b false := by
  obtain ⟨r1, r2⟩ := merge_law (fun f s => f && !s) (a.length + b.length) a b (Nat.le_refl _) ha hb h1 h2
  refine rises_ext _ _ r1 (onlyL_rises ha) fun x => ?_
  unfold minusL
  rw [r2 x, mem_onlyL]
  by_cases e1 : x ∈ a <;> by_cases e2 : x ∈ b <;> simp [e1, e2]
theorem both_law (a b : List IdL) (ha : Rises a) (hb : Rises b) (h1 : ∀ s ∈ a, s.length = 32) (h2 : ∀ s ∈ b, s.length = 32) : bothL a b = onlyL a b true := by
  obtain ⟨r1, r2⟩ := merge_law (fun f s => f && s) (a.length + b.length) a b (Nat.le_refl _) ha hb h1 h2
  refine rises_ext _ _ r1 (onlyL_rises ha) fun x => ?_
  unfold bothL
  rw [r2 x, mem_onlyL]
  by_cases e1 : x ∈ a <;> by_cases e2 : x ∈ b <;> simp [e1, e2]
end Go.Proofs.Ytffgifegaagndaa
end
section
/- The law IdTexts: walk. -/
namespace Go.Proofs.Ytffgifegaagndaa
open Go.RowKit
open Go.Qk hiding rotr b4
set_option maxHeartbeats 2000000
set_option maxRecDepth 100000
theorem id_neq_self (F : List UInt8) (hF : F.length = 32) (w : World) : (Go.binOp .neq 23 (idV F) (idV F)).run Try.prog w = .ok (.bool false) w := by
  rw [id_neq F F hF hF w, beq_self_eq_true]
  rfl
theorem str_eq (l : List UInt8) : ((bs l).toList == (bs l).toList) = true := beq_self_eq_true _
theorem str_ne (l : List UInt8) : ((bs l).toList != (bs l).toList) = false := by simp
end Go.Proofs.Ytffgifegaagndaa
end
