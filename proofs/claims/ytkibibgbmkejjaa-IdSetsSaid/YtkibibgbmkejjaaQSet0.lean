/- Rows of ids: their beginnings and ends; two functions that call with two truths. -/
import Derived.Test.YtkibibgbmkejjaaQRows2
import Derived.Test.YtkibibgbmkejjaaQIdL
import Derived.Test.YtkibibgbmkejjaaQId2
set_option linter.unusedSimpArgs false
set_option linter.unusedVariables false
namespace Go.Qk
open Go.RowKit
theorem addr_add_add (ad : Addr) (i j : Nat) : (ad.add i).add j = ad.add (i + j) := by
  unfold Addr.add
  by_cases hi : i = 0
  · subst hi; simp
  · by_cases hj : j = 0
    · subst hj; simp
    · simp [hi, hj, Nat.add_assoc]
theorem idRow_drop {w : World} {ad : Addr} {xs : List (List UInt8)} (h : IdRow w (some ad) xs) (k : Nat) : IdRow w (some (ad.add (k * 32))) (xs.drop k) := by
  refine ⟨by rw [List.length_drop]; have := h.1; omega, fun _ => ⟨_, rfl, fun i hi j v hv => ?_⟩⟩
  rw [List.length_drop] at hi
  have hk : k + i < xs.length := by omega
  obtain ⟨ad', e, hc⟩ := h.2 (by intro e; subst e; simp at hk)
  obtain rfl := Option.some.inj e
  have hg : (xs.drop k).getD i [] = xs.getD (k + i) [] := by simp [hk]
  rw [hg] at hv
  have := hc (k + i) hk j v hv
  rw [addr_add_add, addr_add_add] at *
  rw [show k * 32 + (i * 32 + j) = (k + i) * 32 + j by omega]
  exact this
theorem idRow_take {w : World} {A : Option Addr} {xs : List (List UInt8)} (h : IdRow w A xs) (k : Nat) : IdRow w A (xs.take k) := by
  refine ⟨by rw [List.length_take]; have := h.1; omega, fun hne => ?_⟩
  have hx : xs ≠ [] := by intro e; subst e; simp at hne
  obtain ⟨ad, e, hc⟩ := h.2 hx
  refine ⟨ad, e, fun i hi j v hv => ?_⟩
  rw [List.length_take] at hi
  have hg : (xs.take k).getD i [] = xs.getD i [] := by simp [List.getElem?_take, show i < k by omega]
  rw [hg] at hv
  exact hc i (by omega) j v hv
theorem idRow_nil (w : World) (A : Option Addr) : IdRow w A [] := ⟨by simp, fun h => absurd rfl h⟩
/-- What is behind the first. -/
def tailA (ad : Addr) (c : Nat) : Addr := if c = 1 then ad else ad.add 32
theorem idRow_tail {w : World} {ad : Addr} {x : List UInt8} {xs : List (List UInt8)} {c : Nat} (h : IdRow w (some ad) (x :: xs)) (hc : xs.length + 1 ≤ c) : IdRow w (some (tailA ad c)) xs := by
  unfold tailA
  split
  · obtain rfl : xs = [] := List.eq_nil_of_length_eq_zero (by omega)
    exact idRow_nil _ _
  · exact idRow_drop h 1
theorem lexLess_asymm : ∀ (l m : List UInt8), lexLess l m = true → lexLess m l = false
  | [], _, h => by simp [lexLess] at h
  | _ :: _, [], h => by simp [lexLess] at h
  | a :: l, b :: m, h => by
    by_cases e : a = b
    · subst e
      simp only [lexLess, if_true] at h ⊢
      exact lexLess_asymm l m h
    · simp only [lexLess, if_neg e, if_neg (Ne.symm e), decide_eq_true_eq, decide_eq_false_iff_not, UInt8.lt_iff_toNat_lt] at h ⊢
      omega
end Go.Qk
namespace Go.Proofs.Ytkibibgbmkejjaa
open Go.RowKit
open Go.Qk hiding rotr b4
set_option maxHeartbeats 1000000
set_option maxRecDepth 100000
def RetRow (B : Nat) (w : World) (xs : List (List UInt8)) (e : Ending) (w' : World) : Prop := ∃ v, e = .returned v ∧ OwnIds 23 B w' v xs ∧ Below w.heap.size w w'
theorem own_store {B g : Nat} {w w' : World} {v : Value} {xs : List (List UInt8)} (h : OwnIds 23 B w v xs) (hg : w.grownBy w' (some g)) (hne : v.ownBlock ≠ some g) : OwnIds 23 B w' v xs := ⟨h.1.kept hg (.inr hne), h.2⟩
theorem own_ne {B g : Nat} {w : World} {v : Value} {xs : List (List UInt8)} (h : OwnIds 23 B w v xs) (hg : w.heap.size ≤ g) : v.ownBlock ≠ some g := fun e => by have := (h.1.lt g e).2; omega
theorem run_tail {ad : Addr} {n c : Nat} (hn : 1 ≤ n) (w : World) : (Instr.sliceAt 35 (.slice (some ad) n c) (some (.int .i64 1)) none none).run Try.prog w = .ok (.slice (some (tailA ad c)) (n - 1) (c - 1)) w := by
  have h1 : (1 : Int) ≤ (n : Int) := by omega
  go_simp
  unfold tailA Addr.add
  split <;> simp_all
theorem unionCnt (x y : Bool) (w : World) : Calls Try.prog 103 (#[.bool x, .bool y] ++ #[]) w fun e w' => e = .returned (.bool true) ∧ Below w.heap.size w w' := by
  rw [Array.append_empty]
  go_enter Try.func103, Try.ntmps103
  have HB := hid (grow_refl w)
  go_wp2
  go_ret
  exact ⟨rfl, HB.out⟩
theorem minusCnt (x y : Bool) (w : World) : Calls Try.prog 104 (#[.bool x, .bool y] ++ #[]) w fun e w' => e = .returned (.bool (x && !y)) ∧ Below w.heap.size w w' := by
  rw [Array.append_empty]
  cases x with
  | true =>
    cases y <;>
    · go_enter Try.func104, Try.ntmps104
      have HB := hid (grow_refl w)
      go_wp2
      go_ret
      exact ⟨rfl, HB.out⟩
  | false =>
    go_enter Try.func104, Try.ntmps104
    have HB := hid (grow_refl w)
    go_wp2
    go_ret
    exact ⟨rfl, HB.out⟩
theorem bothCnt (x y : Bool) (w : World) : Calls Try.prog 105 (#[.bool x, .bool y] ++ #[]) w fun e w' => e = .returned (.bool (x && y)) ∧ Below w.heap.size w w' := by
  rw [Array.append_empty]
  cases x with
  | true =>
    go_enter Try.func105, Try.ntmps105
    have HB := hid (grow_refl w)
    go_wp2
    go_ret
    exact ⟨rfl, HB.out⟩
  | false =>
    go_enter Try.func105, Try.ntmps105
    have HB := hid (grow_refl w)
    go_wp2
    go_ret
    exact ⟨rfl, HB.out⟩
theorem ent_union : ∀ args w, (callFunc 103 args).run Try.prog w = .ok (.enter 103 args) w := fun _ _ => by kernel_rfl
theorem ent_minus : ∀ args w, (callFunc 104 args).run Try.prog w = .ok (.enter 104 args) w := fun _ _ => by kernel_rfl
theorem ent_both : ∀ args w, (callFunc 105 args).run Try.prog w = .ok (.enter 105 args) w := fun _ _ => by kernel_rfl
end Go.Proofs.Ytkibibgbmkejjaa
