/- law JournalBytes: the walk. -/
import Derived.Test.YtabkaflccaklhaaQJouC
set_option linter.unusedSimpArgs false
set_option linter.unusedVariables false
namespace Go.Proofs.Ytabkaflccaklhaa
open Go.RowKit
open Go.Qk hiding rotr b4
open Pac
set_option maxHeartbeats 4000000
set_option maxRecDepth 100000
def fmBad (x : Int × List UInt8) : Bool := decide (x.1 < 1 ∨ 255 < x.1)
def badN (fs : List (Int × List UInt8)) : Int := if fs.any fmBad then 1 else 0
theorem badN_snoc (fs : List (Int × List UInt8)) (x : Int × List UInt8) : badN (fs ++ [x]) = if badN fs = 0 then (if fmBad x then 1 else 0) else badN fs := by
  unfold badN
  rw [List.any_append]
  cases fs.any fmBad <;> cases h : fmBad x <;> simp [h]
theorem fmAll_get : ∀ (fs : List (Int × List UInt8)) (i j : Nat) (v : Value), i < fs.length → (fmCells (fs.getD i fm0))[j]? = some v → (fmAll fs)[i * 2 + j]? = some v
  | [], i, j, v, h, _ => by simp at h
  | x :: t, 0, j, v, _, hv => by
    have hj : j < 2 := (List.getElem?_eq_some_iff.1 hv).1
    have e : fmAll (x :: t) = fmCells x ++ fmAll t := rfl
    rw [e, List.getElem?_append_left (by show 0 * 2 + j < 2; omega), Nat.zero_mul, Nat.zero_add]
    exact hv
  | x :: t, i + 1, j, v, h, hv => by
    have e : fmAll (x :: t) = fmCells x ++ fmAll t := rfl
    have ih := fmAll_get t i j v (by simpa using h) (by simpa using hv)
    rw [e, List.getElem?_append_right (by show 2 ≤ (i + 1) * 2 + j; omega)]
    have e2 : (i + 1) * 2 + j - (fmCells x).length = i * 2 + j := by show (i + 1) * 2 + j - 2 = _; omega
    rw [e2]
    exact ih
theorem FmRow.own {w : World} {B : Nat} {v : Value} {n : Nat} {fs : List (Int × List UInt8)} {t : TypeId} (h : w.ownsRow B t 2 v n (fmAll fs)) (hn : fs.length = n) (h9 : n ≤ 9223372036854775807) : ∃ A k, v = .slice A n k ∧ FmRow w A fs := by
  obtain ⟨A, k, e, hc⟩ := own_sl h
  refine ⟨A, k, e, by omega, fun hne => ?_⟩
  have h1 : fmAll fs ≠ [] := by
    cases fs with
    | nil => exact absurd rfl hne
    | cons x t => intro h; cases h
  obtain ⟨ad, e1, e2⟩ := hc h1
  refine ⟨ad, e1, fun i hi j u hu => ?_⟩
  have h3 := e2 _ _ (fmAll_get fs i j u hi hu)
  generalize i * 2 = m at *
  rw [show (ad.add m).add j = ad.add (m + j) by unfold Addr.add; by_cases h5 : m = 0 <;> by_cases h6 : j = 0 <;> simp [h5, h6, Nat.add_assoc]]
  exact h3
theorem allF_ge : ∀ (l : List (UInt8 × List UInt8)) (c : List UInt8), l.length ≤ (allF c l).length
  | [], _ => Nat.zero_le _
  | (k, p) :: t, c => by
    have ih := allF_ge t (nextL c k p)
    have e : allF c ((k, p) :: t) = frameB c k p ++ allF (nextL c k p) t := rfl
    have h1 : 1 ≤ (frameB c k p).length := by unfold frameB; simp
    rw [e, List.length_append, List.length_cons]
    omega
theorem fmSize_le : ∀ (fs : List (Int × List UInt8)), (∀ x ∈ fs, x.2.length ≤ 300) → fmSize fs ≤ 320 * fs.length
  | [], _ => by simp [fmSize]
  | x :: t, h => by
    have ih := fmSize_le t (fun y hy => h y (List.mem_cons_of_mem _ hy))
    have h1 := h x List.mem_cons_self
    have e : fmSize (x :: t) = x.2.length + 20 + fmSize t := by simp [fmSize]
    rw [e, List.length_cons]
    omega
theorem firstBad : ∀ (fs : List (Int × List UInt8)), fs.any fmBad = true → (∀ x ∈ fs, x.2.length ≤ 300) → ∃ j, j < fs.length ∧ (∀ i, i < j → fmOk (fs.getD i fm0)) ∧ ((fs.getD j fm0).1 < 1 ∨ 255 < (fs.getD j fm0).1)
  | [], h, _ => by cases h
  | x :: t, h, hp => by
    by_cases hx : x.1 < 1 ∨ 255 < x.1
    · exact ⟨0, by simp, fun i hi => absurd hi (Nat.not_lt_zero i), hx⟩
    · have ht : t.any fmBad = true := by
        rw [List.any_cons] at h
        have e : fmBad x = false := by unfold fmBad; simp only [decide_eq_false_iff_not]; exact hx
        rw [e, Bool.false_or] at h
        exact h
      obtain ⟨j, h1, h2, h3⟩ := firstBad t ht (fun y hy => hp y (List.mem_cons_of_mem _ hy))
      refine ⟨j + 1, by simp; omega, fun i hi => ?_, by simpa using h3⟩
      cases i with
      | zero =>
        have h0 := hp x List.mem_cons_self
        exact ⟨by show 1 ≤ x.1; omega, by show x.1 ≤ 255; omega, by show x.2.length ≤ 4194304; omega⟩
      | succ i => simpa using h2 i (by omega)
def CellsAt (w : World) (ad : Addr) (x : Int × List UInt8) : Prop := ∀ j v, (fmCells x)[j]? = some v → w.cell? (ad.add j) = some v
theorem CellsAt.grow {w w1 : World} {ad : Addr} {x : Int × List UInt8} (h : CellsAt w ad x) (hg : Grow w w1) : CellsAt w1 ad x := fun j v hj => grow_cell (h j v hj) hg
end Go.Proofs.Ytabkaflccaklhaa
