/- journal.Scan: what is read, plain; the reader's calls in one form. -/
import Derived.Test.YtabkaflccaklhaaQJou4
set_option linter.unusedSimpArgs false
set_option linter.unusedVariables false
namespace Go.Proofs.Ytabkaflccaklhaa
open Go.RowKit
open Go.Qk hiding rotr b4
open Pac
set_option maxHeartbeats 1000000
set_option maxRecDepth 100000
def byteF (L : List UInt8) (p : Nat) (e : Int) : UInt8 × Nat × Int := if e ≠ 0 then (0, p, e) else match L.drop p with
  | [] => (0, p, 2)
  | b :: _ => (b, p + 1, 0)
def textF (L : List UInt8) (p : Nat) (e : Int) : List UInt8 × Nat × Int := if e ≠ 0 then ([], p, e) else textR L p mostP
def eightF (L : List UInt8) (p : Nat) (e : Int) : Nat → List UInt8 × Nat × Int
  | 0 => ([], p, e)
  | n + 1 => ((eightF L p e n).1 ++ [(byteF L (eightF L p e n).2.1 (eightF L p e n).2.2).1], (byteF L (eightF L p e n).2.1 (eightF L p e n).2.2).2)
theorem byteF_le {L : List UInt8} {p : Nat} {e : Int} (hp : p ≤ L.length) : (byteF L p e).2.1 ≤ L.length := by
  unfold byteF
  split
  · exact hp
  · split
    · exact hp
    · rename_i h
      have := congrArg List.length h
      simp at this
      show p + 1 ≤ _
      omega
theorem byteF_ok {L : List UInt8} {p : Nat} {e : Int} (h : (byteF L p e).2.2 = 0) : e = 0 ∧ ∃ t, L.drop p = (byteF L p e).1 :: t ∧ (byteF L p e).2.1 = p + 1 ∧ p + 1 ≤ L.length := by
  unfold byteF at h ⊢
  by_cases he : e ≠ 0
  · rw [if_pos he] at h; exact absurd h he
  · rw [if_neg he] at h ⊢
    refine ⟨by simpa using he, ?_⟩
    cases hd : L.drop p with
    | nil => rw [hd] at h; simp at h
    | cons b t =>
      have := congrArg List.length hd
      simp at this
      exact ⟨t, rfl, rfl, by omega⟩
theorem textR_le {L : List UInt8} {p most : Nat} (hp : p ≤ L.length) : (textR L p most).2.1 ≤ L.length := by
  unfold textR
  split
  · split
    · exact hp
    · split
      · rename_i h
        show p + _ + _ ≤ _
        rename_i v k hn _
        obtain ⟨u, j, h1, h2, h3, h4, h5, _, h7⟩ := rdN_once _ 0 0 v k hn
        simp at h4
        omega
      · exact hp
  · exact hp
  · exact hp
theorem textR_most {L : List UInt8} {p most : Nat} : (textR L p most).1.length ≤ most := by
  unfold textR
  split
  · split
    · exact Nat.zero_le _
    · split
      · simp; omega
      · exact Nat.zero_le _
  · exact Nat.zero_le _
  · exact Nat.zero_le _
theorem textF_le {L : List UInt8} {p : Nat} {e : Int} (hp : p ≤ L.length) : (textF L p e).2.1 ≤ L.length := by
  unfold textF
  split
  · exact hp
  · exact textR_le hp
theorem textF_most {L : List UInt8} {p : Nat} {e : Int} : (textF L p e).1.length ≤ 4194304 := by
  unfold textF
  split
  · exact Nat.zero_le _
  · exact textR_most
theorem eightF_le {L : List UInt8} {p : Nat} {e : Int} (hp : p ≤ L.length) : ∀ n, (eightF L p e n).2.1 ≤ L.length ∧ (eightF L p e n).1.length = n
  | 0 => ⟨hp, rfl⟩
  | n + 1 => by
    have ih := eightF_le hp n (e := e)
    exact ⟨byteF_le ih.1, by show ((eightF L p e n).1 ++ [_]).length = _; simp [ih.2]⟩
theorem eightF_ok {L : List UInt8} {p : Nat} {e : Int} (hp : p ≤ L.length) : ∀ n, (eightF L p e n).2.2 = 0 → e = 0 ∧ (eightF L p e n).2.1 = p + n ∧ p + n ≤ L.length ∧ (eightF L p e n).1 = (L.drop p).take n
  | 0, h => ⟨h, rfl, hp, by simp [eightF]⟩
  | n + 1, h => by
    obtain ⟨h1, t, h2, h3, h4⟩ := byteF_ok (show (byteF L (eightF L p e n).2.1 (eightF L p e n).2.2).2.2 = 0 from h)
    obtain ⟨i1, i2, i3, i4⟩ := eightF_ok hp n h1
    rw [i2] at h2 h3 h4
    refine ⟨i1, by show (byteF L _ _).2.1 = _; rw [i2, h3]; omega, by omega, ?_⟩
    show (eightF L p e n).1 ++ [(byteF L (eightF L p e n).2.1 (eightF L p e n).2.2).1] = _
    rw [i2, i4]
    rw [List.take_succ_eq_append_getElem (by simp; omega)]
    congr 1
    have hg : (L.drop (p + n))[0]? = some (byteF L (p + n) (eightF L p e n).2.2).1 := by rw [h2]; rfl
    rw [List.getElem?_drop] at hg
    have hlt : p + n < L.length := by omega
    simp [hlt] at hg
    simp [hg]
theorem oneF_short (c : List UInt8) : ∀ L : List UInt8, (∀ t, L ≠ 74 :: t) → oneF L c = none
  | [], _ => rfl
  | [a], _ => rfl
  | a :: k :: t, h => by
    have : a ≠ 74 := fun e => h (k :: t) (by rw [e])
    simp [oneF, this]
/-- What the three reads tell of a text that begins with the sign. -/
theorem oneF_read (c t : List UInt8) (k : UInt8) (p1 p2 p3 : Nat) (e1 e2 e3 : Int) (x sh : List UInt8) (h1 : byteF (74 :: t) 1 0 = (k, p1, e1)) (h2 : textF (74 :: t) p1 e1 = (x, p2, e2)) (h3 : eightF (74 :: t) p2 e2 8 = (sh, p3, e3)) :
    (e3 ≠ 0 → oneF (74 :: t) c = none) ∧ (e3 = 0 → oneF (74 :: t) c = if k ≠ 0 ∧ sh = (nextL c k x).take 8 then some (k, x, p3) else none) := by
  cases t with
  | nil =>
    have : byteF [74] 1 0 = (0, 1, 2) := rfl
    rw [this] at h1
    obtain ⟨rfl, rfl, rfl⟩ : k = 0 ∧ p1 = 1 ∧ e1 = 2 := by simp at h1; exact ⟨h1.1.symm, h1.2.1.symm, h1.2.2.symm⟩
    have e : textF [74] 1 2 = ([], 1, 2) := rfl
    rw [e] at h2
    obtain ⟨rfl, rfl, rfl⟩ : x = [] ∧ p2 = 1 ∧ e2 = 2 := by simp at h2; exact ⟨h2.1, h2.2.1.symm, h2.2.2.symm⟩
    refine ⟨fun _ => rfl, fun he => ?_⟩
    have := (eightF_ok (L := [74]) (p := 1) (e := 2) (by simp) 8 (by rw [h3]; exact he)).1
    omega
  | cons k0 t =>
    have : byteF (74 :: k0 :: t) 1 0 = (k0, 2, 0) := rfl
    rw [this] at h1
    obtain ⟨rfl, rfl, rfl⟩ : k = k0 ∧ p1 = 2 ∧ e1 = 0 := by simp at h1; exact ⟨h1.1.symm, h1.2.1.symm, h1.2.2.symm⟩
    have e : textF (74 :: k :: t) 2 0 = textR (74 :: k :: t) 2 mostP := rfl
    rw [e] at h2
    have hp2 : p2 ≤ (74 :: k :: t).length := by have := textR_le (L := 74 :: k :: t) (p := 2) (most := mostP) (by simp); rw [h2] at this; exact this
    unfold oneF
    dsimp only
    rw [h2]
    dsimp only
    constructor
    · intro he
      rw [if_neg]
      rintro ⟨_, _, q1, q2, _⟩
      apply he
      -- all eight bytes are there
      have key : ∀ n, p2 + n ≤ (74 :: k :: t).length → (eightF (74 :: k :: t) p2 e2 n).2.2 = 0 ∧ (eightF (74 :: k :: t) p2 e2 n).2.1 = p2 + n := fun n => by
        induction n with
        | zero => intro _; exact ⟨q1, rfl⟩
        | succ n ih =>
          intro hn
          obtain ⟨i1, i2⟩ := ih (by omega)
          show (byteF _ (eightF _ p2 e2 n).2.1 (eightF _ p2 e2 n).2.2).2.2 = 0 ∧ (byteF _ (eightF _ p2 e2 n).2.1 (eightF _ p2 e2 n).2.2).2.1 = _
          rw [i1, i2]
          unfold byteF
          rw [if_neg (by simp)]
          cases hd : (74 :: k :: t).drop (p2 + n) with
          | nil => have := congrArg List.length hd; simp at this; simp at hn; omega
          | cons b r => exact ⟨rfl, rfl⟩
      have := (key 8 q2).1
      rw [h3] at this
      exact this
    · intro he
      obtain ⟨q1, q2, q3, q4⟩ := eightF_ok (L := 74 :: k :: t) (p := p2) (e := e2) hp2 8 (by rw [h3]; exact he)
      rw [h3] at q2 q4
      dsimp only at q2 q4
      subst q1
      rw [← q4, q2]
      by_cases hk : k ≠ 0 ∧ sh = (nextL c k x).take 8
      · rw [if_pos hk, if_pos ⟨rfl, hk.1, rfl, q3, hk.2⟩]
      · rw [if_neg hk, if_neg (fun h => hk ⟨h.2.1, h.2.2.2.2⟩)]
theorem rdByteF (g : Nat) (L : List UInt8) (p : Nat) (e : Int) (hp : p ≤ L.length) (hL : L.length ≤ 1000000000) (w : World) (hg : w.heap[g]? = some (rdOb L p e)) :
    Calls Try.prog 54 #[ptrV g] w fun r w' => r = .returned (.int .u8 ((byteF L p e).1.toNat : Int)) ∧ w'.heap[g]? = some (rdOb L (byteF L p e).2.1 (byteF L p e).2.2) ∧ Fr (fun k => k = g) w w' := by
  unfold byteF
  by_cases he : e ≠ 0
  · rw [if_pos he]
    refine (rdByte_err g L p e he w hg).mono ?_
    rintro r w' ⟨rfl, rfl⟩
    exact ⟨rfl, hg, Fr.refl _ _⟩
  · obtain rfl : e = 0 := by simpa using he
    rw [if_neg he]
    cases hd : L.drop p with
    | nil =>
      obtain rfl : p = L.length := by have := congrArg List.length hd; simp at this; omega
      exact rdByte_short g L hL w hg
    | cons b t => exact rdByte g L p b t hd hL w hg
theorem rdTextF (g : Nat) (L : List UInt8) (p : Nat) (e : Int) (hp : p ≤ L.length) (hL : L.length ≤ 1000000000) (w : World) (hg : w.heap[g]? = some (rdOb L p e)) :
    Calls Try.prog 55 #[ptrV g, .int .i64 4194304] w fun r w' => r = .returned (.string (bs (textF L p e).1)) ∧ w'.heap[g]? = some (rdOb L (textF L p e).2.1 (textF L p e).2.2) ∧ Fr (fun k => k = g) w w' := by
  unfold textF
  by_cases he : e ≠ 0
  · rw [if_pos he]
    exact rdText_err g L p 4194304 e he w hg
  · obtain rfl : e = 0 := by simpa using he
    rw [if_neg he]
    exact rdText g L p 4194304 hp hL w hg
end Go.Proofs.Ytabkaflccaklhaa
