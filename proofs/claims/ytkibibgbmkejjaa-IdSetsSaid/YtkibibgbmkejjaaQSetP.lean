/- Rows of ids that rise: lists alone. -/
import Derived.Test.YtkibibgbmkejjaaQSetR
import Derived.Test.YtkibibgbmkejjaaQSetM
set_option linter.unusedSimpArgs false
set_option linter.unusedVariables false
namespace Go.Qk
open Go.RowKit
theorem lexLess_trans : ∀ (a b c : List UInt8), lexLess a b = true → lexLess b c = true → lexLess a c = true
  | [], _, _, h, _ => by simp [lexLess] at h
  | _ :: _, [], _, h, _ => by simp [lexLess] at h
  | _ :: _, _ :: _, [], _, h => by simp [lexLess] at h
  | x :: a, y :: b, z :: c, h1, h2 => by
    by_cases e : x = y
    · subst e
      by_cases f : x = z
      · subst f
        simp only [lexLess, if_true] at h1 h2 ⊢
        exact lexLess_trans a b c h1 h2
      · simp only [lexLess, if_neg f] at h2 ⊢
        exact h2
    · by_cases f : y = z
      · subst f
        simp only [lexLess, if_neg e] at h1 ⊢
        exact h1
      · simp only [lexLess, if_neg e, if_neg f, decide_eq_true_eq, UInt8.lt_iff_toNat_lt] at h1 h2
        have g : x ≠ z := by rintro rfl; omega
        simp only [lexLess, if_neg g, decide_eq_true_eq, UInt8.lt_iff_toNat_lt]
        omega
theorem lexLess_tri : ∀ (a b : List UInt8), a.length = b.length → lexLess a b = false → lexLess b a = false → a = b
  | [], [], _, _, _ => rfl
  | [], _ :: _, h, _, _ => by simp at h
  | _ :: _, [], h, _, _ => by simp at h
  | x :: a, y :: b, h, h1, h2 => by
    by_cases e : x = y
    · subst e
      simp only [lexLess, if_true] at h1 h2
      rw [lexLess_tri a b (by simpa using h) h1 h2]
    · simp only [lexLess, if_neg e, if_neg (Ne.symm e), decide_eq_false_iff_not, UInt8.lt_iff_toNat_lt] at h1 h2
      exact absurd (UInt8.toNat_inj.1 (by omega)) e
/-- Each one is above those ahead. -/
def Rises (l : List (List UInt8)) : Prop := l.Pairwise fun a b => lexLess a b = true
theorem rises_ext : ∀ (l m : List (List UInt8)), Rises l → Rises m → (∀ x, x ∈ l ↔ x ∈ m) → l = m
  | [], [], _, _, _ => rfl
  | [], y :: m, _, _, h => by have := (h y).2 List.mem_cons_self; cases this
  | x :: l, [], _, _, h => by have := (h x).1 List.mem_cons_self; cases this
  | x :: l, y :: m, h1, h2, h => by
    obtain ⟨a1, b1⟩ := List.pairwise_cons.1 h1
    obtain ⟨a2, b2⟩ := List.pairwise_cons.1 h2
    have e : x = y := by
      rcases List.mem_cons.1 ((h x).1 List.mem_cons_self) with e | hx
      · exact e
      · rcases List.mem_cons.1 ((h y).2 List.mem_cons_self) with e | hy
        · exact e.symm
        · have h3 := a2 x hx
          have h4 := lexLess_asymm _ _ (a1 y hy)
          rw [h3] at h4
          cases h4
    subst e
    have nx : ∀ (k : List (List UInt8)), (∀ a ∈ k, lexLess x a = true) → x ∉ k := fun k hk hx => by
      have := hk x hx
      rw [lexLess_self] at this
      cases this
    rw [rises_ext l m b1 b2 fun z => ?_]
    constructor
    · intro hz
      rcases List.mem_cons.1 ((h z).1 (List.mem_cons_of_mem _ hz)) with e | hz2
      · subst e; exact absurd hz (nx l a1)
      · exact hz2
    · intro hz
      rcases List.mem_cons.1 ((h z).2 (List.mem_cons_of_mem _ hz)) with e | hz2
      · subst e; exact absurd hz (nx m a2)
      · exact hz2
theorem mem_ins (a x : List UInt8) : ∀ l, x ∈ ins a l ↔ x = a ∨ x ∈ l
  | [] => by simp [ins]
  | y :: l => by
    unfold ins
    split
    · simp
    · rw [List.mem_cons, mem_ins a x l, List.mem_cons]
      constructor
      · rintro (h | h | h)
        · exact .inr (.inl h)
        · exact .inl h
        · exact .inr (.inr h)
      · rintro (h | h | h)
        · exact .inr (.inl h)
        · exact .inl h
        · exact .inr (.inr h)
theorem ins_rises (a : List UInt8) (ha : a.length = 32) : ∀ l, Rises l → (∀ s ∈ l, s.length = 32) → a ∉ l → Rises (ins a l)
  | [], _, _, _ => by simp [ins, Rises]
  | y :: l, h, h32, hn => by
    obtain ⟨h1, h2⟩ := List.pairwise_cons.1 h
    unfold ins
    split
    · rename_i hl
      refine List.pairwise_cons.2 ⟨fun z hz => ?_, h⟩
      rcases List.mem_cons.1 hz with e | hz
      · rw [e]; exact hl
      · exact lexLess_trans _ _ _ hl (h1 z hz)
    · rename_i hl
      refine List.pairwise_cons.2 ⟨fun z hz => ?_, ins_rises a ha l h2 (fun s hs => h32 s (List.mem_cons_of_mem _ hs)) (fun h => hn (List.mem_cons_of_mem _ h))⟩
      rcases (mem_ins a z l).1 hz with e | hz
      · subst e
        cases hy : lexLess y z with
        | true => rfl
        | false => exact absurd (lexLess_tri z y (by rw [ha, h32 y List.mem_cons_self]) (by simpa using hl) hy) (fun e => hn (e ▸ List.mem_cons_self))
      · exact h1 z hz
theorem putL_rises {l : List (List UInt8)} {a : List UInt8} (h : Rises l) (h32 : ∀ s ∈ l, s.length = 32) (ha : a.length = 32) : Rises (putL l a) := by
  unfold putL
  split
  · exact h
  · rename_i hc
    exact ins_rises a ha l h h32 (by simpa using hc)
theorem mem_putL (l : List (List UInt8)) (a x : List UInt8) : x ∈ putL l a ↔ x = a ∨ x ∈ l := by
  unfold putL
  split
  · rename_i hc
    constructor
    · exact .inr
    · rintro (e | h)
      · rw [e]; simpa using hc
      · exact h
  · exact mem_ins a x l
theorem fold_putL : ∀ (m acc : List (List UInt8)), (∀ s ∈ m, s.length = 32) → (∀ s ∈ acc, s.length = 32) → Rises acc → Rises (m.foldl putL acc) ∧ ∀ x, x ∈ m.foldl putL acc ↔ x ∈ m ∨ x ∈ acc
  | [], acc, _, _, h => ⟨h, fun x => by simp⟩
  | a :: m, acc, h1, h2, h => by
    have ha := h1 a List.mem_cons_self
    obtain ⟨r1, r2⟩ := fold_putL m (putL acc a) (fun s hs => h1 s (List.mem_cons_of_mem _ hs)) (putL_32 h2 ha) (putL_rises h h2 ha)
    refine ⟨r1, fun x => ?_⟩
    rw [List.foldl_cons, r2 x, mem_putL, List.mem_cons]
    constructor
    · rintro (h | h | h)
      · exact .inl (.inr h)
      · exact .inl (.inl h)
      · exact .inr h
    · rintro ((h | h) | h)
      · exact .inr (.inl h)
      · exact .inl h
      · exact .inr (.inr h)
theorem sortL_rises (l : List (List UInt8)) (h : ∀ s ∈ l, s.length = 32) : Rises (sortL l) := (fold_putL l [] h (fun _ h => by cases h) List.Pairwise.nil).1
theorem mem_sortL (l : List (List UInt8)) (h : ∀ s ∈ l, s.length = 32) (x : List UInt8) : x ∈ sortL l ↔ x ∈ l := by
  have := (fold_putL l [] h (fun _ h => by cases h) List.Pairwise.nil).2 x
  simpa [sortL] using this
theorem sortL_32 (l : List (List UInt8)) (h : ∀ s ∈ l, s.length = 32) : ∀ s ∈ sortL l, s.length = 32 := fun s hs => h s ((mem_sortL l h s).1 hs)
end Go.Qk
namespace Go.Proofs.Ytkibibgbmkejjaa
open Go.RowKit
open Go.Qk hiding rotr b4
theorem merge_law (cnt : Bool → Bool → Bool) : ∀ (n : Nat) (a b : List IdL), a.length + b.length ≤ n → Rises a → Rises b → (∀ s ∈ a, s.length = 32) → (∀ s ∈ b, s.length = 32) →
    Rises (mergeN cnt n a b) ∧ ∀ x, x ∈ mergeN cnt n a b ↔ (x ∈ a ∨ x ∈ b) ∧ cnt (decide (x ∈ a)) (decide (x ∈ b)) = true
  | 0, a, b, hn, _, _, _, _ => by
    obtain rfl : a = [] := List.eq_nil_of_length_eq_zero (by omega)
    obtain rfl : b = [] := List.eq_nil_of_length_eq_zero (by omega)
    exact ⟨List.Pairwise.nil, fun x => by simp [mergeN]⟩
  | n + 1, [], [], _, _, _, _, _ => ⟨List.Pairwise.nil, fun x => by simp [mergeN]⟩
  | n + 1, [], y :: b, hn, h1, h2, g1, g2 => by
    obtain ⟨p, q⟩ := List.pairwise_cons.1 h2
    obtain ⟨r1, r2⟩ := merge_law cnt n [] b (by simp at hn ⊢; omega) h1 q g1 (fun s hs => g2 s (List.mem_cons_of_mem _ hs))
    have hy : y ∉ b := fun h => by have := p y h; rw [lexLess_self] at this; cases this
    have hm : ∀ x ∈ mergeN cnt n [] b, x ∈ b := fun x hx => by have := ((r2 x).1 hx).1; simpa using this
    constructor
    · rw [mergeN]
      split
      · exact List.pairwise_cons.2 ⟨fun z hz => p z (hm z hz), r1⟩
      · exact r1
    · intro x
      rw [mergeN, List.mem_append, r2 x]
      by_cases e : x = y
      · subst e
        cases hc : cnt false true <;> simp [hc, hy]
      · cases hc : cnt false true <;> simp [e]
  | n + 1, x :: a, [], hn, h1, h2, g1, g2 => by
    obtain ⟨p, q⟩ := List.pairwise_cons.1 h1
    obtain ⟨r1, r2⟩ := merge_law cnt n a [] (by simp at hn ⊢; omega) q h2 (fun s hs => g1 s (List.mem_cons_of_mem _ hs)) g2
    have hy : x ∉ a := fun h => by have := p x h; rw [lexLess_self] at this; cases this
    have hm : ∀ z ∈ mergeN cnt n a [], z ∈ a := fun z hz => by have := ((r2 z).1 hz).1; simpa using this
    constructor
    · rw [mergeN]
      split
      · exact List.pairwise_cons.2 ⟨fun z hz => p z (hm z hz), r1⟩
      · exact r1
    · intro z
      rw [mergeN, List.mem_append, r2 z]
      by_cases e : z = x
      · subst e
        cases hc : cnt true false <;> simp [hc, hy]
      · cases hc : cnt true false <;> simp [e]
  | n + 1, x :: a, y :: b, hn, h1, h2, g1, g2 => by
    obtain ⟨p1, q1⟩ := List.pairwise_cons.1 h1
    obtain ⟨p2, q2⟩ := List.pairwise_cons.1 h2
    have hxa : x ∉ a := fun h => by have := p1 x h; rw [lexLess_self] at this; cases this
    have hyb : y ∉ b := fun h => by have := p2 y h; rw [lexLess_self] at this; cases this
    rw [mergeN]
    cases hyx : lexLess y x with
    | true =>
      have hya : y ∉ x :: a := fun h => by
        rcases List.mem_cons.1 h with e | h
        · rw [e, lexLess_self] at hyx; cases hyx
        · have := lexLess_trans _ _ _ hyx (p1 y h); rw [lexLess_self] at this; cases this
      obtain ⟨r1, r2⟩ := merge_law cnt n (x :: a) b (by simp at hn ⊢; omega) h1 q2 g1 (fun s hs => g2 s (List.mem_cons_of_mem _ hs))
      have hm : ∀ z ∈ mergeN cnt n (x :: a) b, lexLess y z = true := fun z hz => by
        rcases ((r2 z).1 hz).1 with h | h
        · rcases List.mem_cons.1 h with e | h
          · rw [e]; exact hyx
          · exact lexLess_trans _ _ _ hyx (p1 z h)
        · exact p2 z h
      constructor
      · rw [if_pos rfl]
        split
        · exact List.pairwise_cons.2 ⟨hm, r1⟩
        · exact r1
      · intro z
        rw [if_pos rfl, List.mem_append, r2 z]
        by_cases e : z = y
        · subst e
          have e1 : decide (z ∈ x :: a) = false := decide_eq_false hya
          have e2 : decide (z ∈ z :: b) = true := decide_eq_true List.mem_cons_self
          have e3 : decide (z ∈ b) = false := decide_eq_false hyb
          rw [e1, e2, e3]
          cases hc : cnt false true <;> simp [hya, hyb]
        · have e2 : (z ∈ y :: b) ↔ z ∈ b := by simp [e]
          have d2 : decide (z ∈ y :: b) = decide (z ∈ b) := decide_eq_decide.2 e2
          rw [d2, e2]
          cases hc : cnt false true <;> simp [e]
    | false =>
      rw [if_neg (by simp)]
      cases hxy : lexLess x y with
      | true =>
        have hxb : x ∉ y :: b := fun h => by
          rcases List.mem_cons.1 h with e | h
          · rw [e, lexLess_self] at hxy; cases hxy
          · have := lexLess_trans _ _ _ hxy (p2 x h); rw [lexLess_self] at this; cases this
        obtain ⟨r1, r2⟩ := merge_law cnt n a (y :: b) (by simp at hn ⊢; omega) q1 h2 (fun s hs => g1 s (List.mem_cons_of_mem _ hs)) g2
        have hm : ∀ z ∈ mergeN cnt n a (y :: b), lexLess x z = true := fun z hz => by
          rcases ((r2 z).1 hz).1 with h | h
          · exact p1 z h
          · rcases List.mem_cons.1 h with e | h
            · rw [e]; exact hxy
            · exact lexLess_trans _ _ _ hxy (p2 z h)
        constructor
        · rw [if_pos rfl]
          split
          · exact List.pairwise_cons.2 ⟨hm, r1⟩
          · exact r1
        · intro z
          rw [if_pos rfl, List.mem_append, r2 z]
          by_cases e : z = x
          · subst e
            have e1 : decide (z ∈ y :: b) = false := decide_eq_false hxb
            have e2 : decide (z ∈ z :: a) = true := decide_eq_true List.mem_cons_self
            have e3 : decide (z ∈ a) = false := decide_eq_false hxa
            rw [e1, e2, e3]
            cases hc : cnt true false <;> simp [hxa, hxb]
          · have e2 : (z ∈ x :: a) ↔ z ∈ a := by simp [e]
            have d2 : decide (z ∈ x :: a) = decide (z ∈ a) := decide_eq_decide.2 e2
            rw [d2, e2]
            cases hc : cnt true false <;> simp [e]
      | false =>
        obtain rfl : x = y := lexLess_tri x y (by rw [g1 x List.mem_cons_self, g2 y List.mem_cons_self]) hxy hyx
        obtain ⟨r1, r2⟩ := merge_law cnt n a b (by simp at hn ⊢; omega) q1 q2 (fun s hs => g1 s (List.mem_cons_of_mem _ hs)) (fun s hs => g2 s (List.mem_cons_of_mem _ hs))
        have hm : ∀ z ∈ mergeN cnt n a b, lexLess x z = true := fun z hz => by
          rcases ((r2 z).1 hz).1 with h | h
          · exact p1 z h
          · exact p2 z h
        constructor
        · rw [if_neg (by simp)]
          split
          · exact List.pairwise_cons.2 ⟨hm, r1⟩
          · exact r1
        · intro z
          rw [if_neg (by simp), List.mem_append, r2 z]
          by_cases e : z = x
          · subst e
            have e1 : decide (z ∈ z :: a) = true := decide_eq_true List.mem_cons_self
            have e2 : decide (z ∈ z :: b) = true := decide_eq_true List.mem_cons_self
            rw [e1, e2]
            cases hc : cnt true true <;> simp [hxa, hyb]
          · have e1 : (z ∈ x :: a) ↔ z ∈ a := by simp [e]
            have e2 : (z ∈ x :: b) ↔ z ∈ b := by simp [e]
            have d1 : decide (z ∈ x :: a) = decide (z ∈ a) := decide_eq_decide.2 e1
            have d2 : decide (z ∈ x :: b) = decide (z ∈ b) := decide_eq_decide.2 e2
            rw [d1, d2, e1, e2]
            cases hc : cnt true true <;> simp [e]
end Go.Proofs.Ytkibibgbmkejjaa
