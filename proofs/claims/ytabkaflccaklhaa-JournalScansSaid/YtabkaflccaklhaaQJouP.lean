/- journal, plain: a frame's bytes, what a text begins with, the frames of a text. -/
import Derived.Test.YtabkaflccaklhaaQPac4
import Derived.Test.YtabkaflccaklhaaQKit1
set_option linter.unusedSimpArgs false
set_option linter.unusedVariables false
namespace Go.Proofs.Ytabkaflccaklhaa
open Go.RowKit
open Go.Qk hiding rotr b4
open Pac
set_option maxHeartbeats 1000000
set_option maxRecDepth 100000
def frameName : ByteArray := ⟨#[102, 114, 97, 109, 101]⟩
def beginName : ByteArray := ⟨#[106, 111, 117, 114, 110, 97, 108]⟩
/-- The chain behind a frame. -/
def nextL (c : List UInt8) (k : UInt8) (p : List UInt8) : List UInt8 := tagSum frameName [bs c, bs [k], bs p]
def beginL : List UInt8 := tagSum beginName []
theorem nextL_length (c : List UInt8) (k : UInt8) (p : List UInt8) : (nextL c k p).length = 32 := tagSum_length _ _
theorem beginL_length : beginL.length = 32 := tagSum_length _ _
def textB (p : List UInt8) : List UInt8 := encN p.length ++ p
def frameB (c : List UInt8) (k : UInt8) (p : List UInt8) : List UInt8 := 74 :: k :: (textB p ++ (nextL c k p).take 8)
def mostP : Nat := 4194304
/-- The frame with which bytes begin, and how many bytes it has. -/
def oneF (L c : List UInt8) : Option (UInt8 × List UInt8 × Nat) :=
  match L with
  | a :: k :: _ =>
    if a = 74 ∧ k ≠ 0 ∧ (textR L 2 mostP).2.2 = 0 ∧ (textR L 2 mostP).2.1 + 8 ≤ L.length ∧ (L.drop (textR L 2 mostP).2.1).take 8 = (nextL c k (textR L 2 mostP).1).take 8 then some (k, (textR L 2 mostP).1, (textR L 2 mostP).2.1 + 8) else none
  | _ => none
def scanF : Nat → List UInt8 → List UInt8 → List (UInt8 × List UInt8) × Nat × List UInt8
  | 0, _, c => ([], 0, c)
  | n + 1, L, c => match oneF L c with
    | none => ([], 0, c)
    | some (k, p, m) => ((k, p) :: (scanF n (L.drop m) (nextL c k p)).1, m + (scanF n (L.drop m) (nextL c k p)).2.1, (scanF n (L.drop m) (nextL c k p)).2.2)
def allF : List UInt8 → List (UInt8 × List UInt8) → List UInt8
  | _, [] => []
  | c, (k, p) :: t => frameB c k p ++ allF (nextL c k p) t
def chainF : List UInt8 → List (UInt8 × List UInt8) → List UInt8
  | c, [] => c
  | c, (k, p) :: t => chainF (nextL c k p) t
theorem encN_ne (v : Nat) : 1 ≤ (encN v).length := encN_pos v
/-- A text that is read ok is what is written of it. -/
theorem textR_ok {L p : List UInt8} {at_ pos most : Nat} (h : textR L at_ most = (p, pos, 0)) (ha : at_ ≤ L.length) : p.length ≤ most ∧ pos ≤ L.length ∧ pos = at_ + (textB p).length ∧ (L.drop at_).take (textB p).length = textB p := by
  unfold textR at h
  cases hn : numR L at_ with
  | short => rw [hn] at h; simp at h
  | form => rw [hn] at h; simp at h
  | ok v k =>
    rw [hn] at h
    dsimp only at h
    obtain ⟨u, j, h1, h2, h3, h4, h5, _, h7⟩ := rdN_once _ 0 0 v k hn
    simp only [Nat.mul_zero, Nat.pow_zero, Nat.one_mul, Nat.zero_add] at h1 h2
    subst h1
    subst h2
    by_cases hm : most < v
    · rw [if_pos hm] at h
      simp at h
    rw [if_neg hm] at h
    by_cases hl : v ≤ L.length - (at_ + k)
    · rw [if_pos hl] at h
      simp only [Prod.mk.injEq, and_true] at h
      obtain ⟨rfl, rfl⟩ := h
      simp only [List.length_drop] at h4
      have hpl : ((L.drop (at_ + k)).take v).length = v := by simp; omega
      have he : (encN v).length = k := by rw [h5]; simp; omega
      have htb : (textB ((L.drop (at_ + k)).take v)).length = k + v := by unfold textB; rw [List.length_append, hpl, he]
      refine ⟨by rw [hpl]; omega, by omega, by rw [htb]; omega, ?_⟩
      rw [htb]
      unfold textB
      rw [hpl, List.take_add, ← h5, List.drop_drop]
    · rw [if_neg hl] at h
      simp at h
/-- What is written is read. -/
theorem textR_enc (p pre rest : List UInt8) (most : Nat) (hp : p.length ≤ most) (hm : p.length ≤ 4611686018427387904) : textR (pre ++ (textB p ++ rest)) pre.length most = (p, pre.length + (textB p).length, 0) := by
  unfold textR numR
  rw [List.drop_left]
  unfold textB
  rw [List.append_assoc, rdN_enc p.length 0 0 (p ++ rest) (by omega) (by omega) (by omega)]
  simp only [Nat.mul_zero, Nat.pow_zero, Nat.one_mul, Nat.zero_add]
  rw [if_neg (by omega), if_pos (by simp; omega)]
  have e : (pre ++ (encN p.length ++ (p ++ rest))).drop (pre.length + (encN p.length).length) = p ++ rest := by
    rw [← List.append_assoc, ← List.length_append, List.drop_left]
  rw [e, List.take_left, List.length_append]
  simp only [Prod.mk.injEq, true_and, and_true]
  omega
theorem oneF_some {L c p : List UInt8} {k : UInt8} {m : Nat} (h : oneF L c = some (k, p, m)) : k ≠ 0 ∧ p.length ≤ mostP ∧ m ≤ L.length ∧ m = (frameB c k p).length ∧ L.take m = frameB c k p := by
  unfold oneF at h
  split at h
  · rename_i a k' t
    split at h
    · rename_i hc
      obtain ⟨h1, h2, h3, h4, h5⟩ := hc
      simp only [Option.some.injEq, Prod.mk.injEq] at h
      obtain ⟨rfl, hp, rfl⟩ := h
      subst h1
      have hx : textR (74 :: k' :: t) 2 mostP = (p, (textR (74 :: k' :: t) 2 mostP).2.1, 0) := by rw [← hp, ← h3]
      rw [hp] at h5
      generalize (textR (74 :: k' :: t) 2 mostP).2.1 = pos at *
      obtain ⟨q1, q2, q3, q4⟩ := textR_ok hx (by simp)
      have hn := nextL_length c k' p
      have hlen : (frameB c k' p).length = pos + 8 := by
        unfold frameB
        simp only [List.length_cons, List.length_append, List.length_take]
        omega
      refine ⟨h2, q1, h4, hlen.symm, ?_⟩
      rw [List.take_add, h5, q3]
      unfold frameB
      have e : (74 :: k' :: t : List UInt8).take (2 + (textB p).length) = [74, k'] ++ textB p := by
        rw [List.take_add, q4]
        rfl
      rw [e]
      simp
    · cases h
  · cases h
theorem oneF_enc (c p rest : List UInt8) (k : UInt8) (hk : k ≠ 0) (hp : p.length ≤ mostP) : oneF (frameB c k p ++ rest) c = some (k, p, (frameB c k p).length) := by
  have hn := nextL_length c k p
  have e : frameB c k p ++ rest = [74, k] ++ (textB p ++ ((nextL c k p).take 8 ++ rest)) := by simp [frameB]
  have ht := textR_enc p [74, k] ((nextL c k p).take 8 ++ rest) mostP hp (by unfold mostP at hp; omega)
  rw [← e] at ht
  have e2 : frameB c k p ++ rest = 74 :: k :: (textB p ++ (nextL c k p).take 8 ++ rest) := by simp [frameB]
  unfold oneF
  rw [e2]
  dsimp only
  rw [← e2]
  have ht2 : textR (frameB c k p ++ rest) 2 mostP = (p, 2 + (textB p).length, 0) := ht
  rw [ht2]
  have hl : (frameB c k p).length = 2 + (textB p).length + 8 := by
    unfold frameB
    simp only [List.length_cons, List.length_append, List.length_take]
    omega
  have e3 : ((frameB c k p ++ rest).drop (2 + (textB p).length)).take 8 = (nextL c k p).take 8 := by
    rw [e, ← List.append_assoc, show 2 + (textB p).length = ([74, k] ++ textB p).length by simp; omega, List.drop_left]
    rw [List.take_append_of_le_length (by simp; omega), List.take_take]
    simp
  rw [if_pos ⟨rfl, hk, rfl, by simp only [List.length_append, hl]; omega, e3⟩, hl]
theorem scanF_all : ∀ (l : List (UInt8 × List UInt8)) (c rest : List UInt8) (n : Nat), (∀ x ∈ l, x.1 ≠ 0 ∧ x.2.length ≤ mostP) → l.length ≤ n → oneF rest (chainF c l) = none → scanF n (allF c l ++ rest) c = (l, (allF c l).length, chainF c l)
  | [], c, rest, n, _, _, h => by
    cases n with
    | zero => rfl
    | succ n =>
      show scanF (n + 1) rest c = _
      unfold scanF
      rw [show oneF rest c = none from h]
      rfl
  | (k, p) :: t, c, rest, n, hl, hn, h => by
    obtain ⟨n', rfl⟩ : ∃ n', n = n' + 1 := ⟨n - 1, by simp at hn; omega⟩
    have h1 := hl (k, p) List.mem_cons_self
    have ih := scanF_all t (nextL c k p) rest n' (fun x hx => hl x (List.mem_cons_of_mem _ hx)) (by simpa using hn) h
    have e : allF c ((k, p) :: t) ++ rest = frameB c k p ++ (allF (nextL c k p) t ++ rest) := by simp [allF]
    rw [e]
    unfold scanF
    rw [oneF_enc c p _ k h1.1 h1.2]
    dsimp only
    rw [List.drop_left, ih]
    simp [allF, chainF]
theorem oneF_nil (c : List UInt8) : oneF [] c = none := rfl
theorem frameB_pos (c p : List UInt8) (k : UInt8) : 2 ≤ (frameB c k p).length := by simp [frameB]
theorem scanF_len : ∀ (n : Nat) (L c : List UInt8), (scanF n L c).2.1 ≤ L.length ∧ L.take (scanF n L c).2.1 = allF c (scanF n L c).1 ∧ (scanF n L c).2.2 = chainF c (scanF n L c).1 ∧ (∀ x ∈ (scanF n L c).1, x.1 ≠ 0 ∧ x.2.length ≤ mostP) ∧ 2 * (scanF n L c).1.length ≤ (scanF n L c).2.1
  | 0, L, c => ⟨Nat.zero_le _, rfl, rfl, (fun _ h => by cases h), Nat.le_refl _⟩
  | n + 1, L, c => by
    unfold scanF
    cases h : oneF L c with
    | none => exact ⟨Nat.zero_le _, rfl, rfl, (fun _ h => by cases h), Nat.le_refl _⟩
    | some x =>
      obtain ⟨k, p, m⟩ := x
      obtain ⟨h1, h2, h3, h4, h5⟩ := oneF_some h
      obtain ⟨i1, i2, i3, i4, i5⟩ := scanF_len n (L.drop m) (nextL c k p)
      dsimp only
      simp only [List.length_drop] at i1
      refine ⟨by omega, ?_, by simp only [chainF]; exact i3, ?_, ?_⟩
      · rw [List.take_add, i2, h5]; rfl
      · intro x hx
        rcases List.mem_cons.1 hx with rfl | hx
        · exact ⟨h1, h2⟩
        · exact i4 x hx
      · have := frameB_pos c p k
        simp only [List.length_cons]
        omega
end Go.Proofs.Ytabkaflccaklhaa
