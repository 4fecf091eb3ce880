/- Joined: QLaw03s QTagL QLam1 QLam2 QLam3 QLam4 QLam5 QLam6 QLam7 QLam8. -/
import Derived.Test.YtkbapegohodcgaaQBase1
import Derived.Test.YtkbapegohodcgaaQKit1
import Derived.Test.YtkbapegohodcgaaQIdx1
set_option linter.unusedSimpArgs false
set_option linter.unusedVariables false
section
namespace Go.Proofs.Ytkbapegohodcgaa
open Go.RowKit Go.Qk

set_option maxHeartbeats 400000
set_option maxRecDepth 100000
end Go.Proofs.Ytkbapegohodcgaa
end
section
/- The laws TagSums, TagRows: walks. -/
namespace Go.Proofs.Ytkbapegohodcgaa
open Go.RowKit
open Go.Qk hiding rotr b4
set_option maxHeartbeats 1000000
set_option maxRecDepth 100000
theorem refOfChain (name : ByteArray) (A : Option Addr) (c : Nat) (l : List (List UInt8)) (w : World) (hx : StrRow w A [bs l.flatten]) (hlen : (textOf (cutName name) [bs l.flatten]).length ≤ 140737488355328) :
    Calls Try.prog 111 #[.string (cutName name), .slice A 1 c] w fun e w' => e = .returned (idV (chainOf name l)) ∧ Below w.heap.size w w' := refOf (cutName name) A 1 c [bs l.flatten] w hx rfl (cutName_size name) hlen
theorem id_eql_of (F G : List UInt8) (hF : F.length = 32) (hG : G.length = 32) (b : Bool) (h : (F == G) = b) (w : World) : (Go.binOp .eql 45 (idV F) (idV G)).run Try.prog w = .ok (.bool b) w := by
  rw [id_eql F G hF hG w, h]
end Go.Proofs.Ytkbapegohodcgaa
end
section
/- lamport: secrets, public sums, which bits are right; the references: contracts. -/
namespace Go.Proofs.Ytkbapegohodcgaa
open Go.RowKit
open Go.Qk hiding rotr b4
set_option maxHeartbeats 1000000
set_option maxRecDepth 100000
theorem wf_hi {a : Int} (h : (Lit.int .i64 a).wf = true) : a ≤ 9223372036854775807 := by
  simp [Lit.wf, IntKind.min, IntKind.max, IntKind.signed, IntKind.bits] at h
  omega
theorem wf_lo {a : Int} (h : (Lit.int .i64 a).wf = true) : -9223372036854775808 ≤ a := by
  simp [Lit.wf, IntKind.min, IntKind.max, IntKind.signed, IntKind.bits] at h
  omega
def clampN (v most : Int) : Nat := (if v < 0 then 0 else if most < v then most else v).toNat
theorem clampN_eq (v most : Int) (h : 0 ≤ most) : ((clampN v most : Nat) : Int) = if v < 0 then 0 else if most < v then most else v := by
  unfold clampN; split <;> (try split) <;> omega
def secretParts (seed : ByteArray) (leaf bit side : Int) : List ByteArray := [seed, bs (be 8 (clampN leaf 9223372036854775807)), bs (be 2 (clampN bit 65535)), bs (be 1 (clampN side 1))]
/-- A secret. -/
def secretOf (seed : ByteArray) (leaf bit side : Int) : List UInt8 := tagSum ⟨#[115, 101, 99, 114, 101, 116]⟩ (secretParts seed leaf bit side)
theorem secretOf_length (seed : ByteArray) (leaf bit side : Int) : (secretOf seed leaf bit side).length = 32 := tagSum_length _ _
theorem secret_small (seed : ByteArray) (leaf bit side : Int) (hs : seed.size ≤ 1000000) : (textOf ⟨#[115, 101, 99, 114, 101, 116]⟩ (secretParts seed leaf bit side)).length ≤ 140737488355328 := by
  have h : (⟨#[115, 101, 99, 114, 101, 116]⟩ : ByteArray).size = 6 := rfl
  simp [textOf, partsOf, secretParts, be_length, bl_length, bs_size, h]
  omega
/-- A secret's public sum. -/
def publicOf (a : List UInt8) : List UInt8 := tagSum ⟨#[112, 117, 98, 108, 105, 99]⟩ [bs a]
theorem publicOf_length (a : List UInt8) : (publicOf a).length = 32 := tagSum_length _ _
/-- May there be so many bits? -/
def rightB (bits : Int) : Bool := decide (8 ≤ bits) && decide (bits ≤ 256) && decide (bits % 8 = 0)
end Go.Proofs.Ytkbapegohodcgaa
end
section
/- The law LamportSecrets: walk. -/
namespace Go.Proofs.Ytkbapegohodcgaa
open Go.RowKit
open Go.Qk hiding rotr b4
set_option maxHeartbeats 1000000
set_option maxRecDepth 100000
end Go.Proofs.Ytkbapegohodcgaa
end
section
/- lamport: a leaf's sum, its reference: contracts. -/
namespace Go.Proofs.Ytkbapegohodcgaa
open Go.RowKit
open Go.Qk hiding rotr b4
set_option maxHeartbeats 1000000
set_option maxRecDepth 100000
theorem two32 {a b : List UInt8} (ha : a.length = 32) (hb : b.length = 32) : ∀ s ∈ [a, b], s.length = 32 := by
  intro s hs
  simp at hs
  rcases hs with rfl | rfl
  · exact ha
  · exact hb
theorem one32 {a : List UInt8} (ha : a.length = 32) : ∀ s ∈ [a], s.length = 32 := by
  intro s hs
  simp at hs
  rw [hs, ha]
def RetIds (B : Nat) (w : World) (xs : List (List UInt8)) (e : Ending) (w' : World) : Prop := ∃ v, e = .returned v ∧ OwnIds 45 B w' v xs ∧ Below w.heap.size w w'
def bothRow (g : Nat → Nat → List UInt8) (n : Nat) : List (List UInt8) := (List.range n).flatMap fun b => [g b 0, g b 1]
theorem bothRow_succ (g : Nat → Nat → List UInt8) (n : Nat) : bothRow g (n + 1) = bothRow g n ++ [g n 0, g n 1] := by simp [bothRow, List.range_succ]
theorem bothRow_length (g : Nat → Nat → List UInt8) (n : Nat) : (bothRow g n).length = 2 * n := by
  induction n with
  | zero => rfl
  | succ n ih => rw [bothRow_succ, List.length_append, ih]; simp; omega
theorem bothRow_32 (g : Nat → Nat → List UInt8) (hg : ∀ b s, (g b s).length = 32) (n : Nat) : ∀ s ∈ bothRow g n, s.length = 32 := by
  intro s hs
  obtain ⟨b, _, hb⟩ := List.mem_flatMap.1 hs
  simp at hb
  rcases hb with rfl | rfl <;> exact hg _ _
def leafPub (seed : ByteArray) (leaf : Int) (b s : Nat) : List UInt8 := publicOf (secretOf seed leaf b s)
theorem leafPub_length (seed : ByteArray) (leaf : Int) (b s : Nat) : (leafPub seed leaf b s).length = 32 := publicOf_length _
/-- A leaf's sum. -/
def leafOf (seed : ByteArray) (leaf : Int) (n : Nat) : List UInt8 := chainOf ⟨#[108, 101, 97, 102]⟩ (bothRow (leafPub seed leaf) n)
theorem leafOf_length (seed : ByteArray) (leaf : Int) (n : Nat) : (leafOf seed leaf n).length = 32 := chainOf_length _ _
theorem chain_leaf (l : List (List UInt8)) : chainOf ⟨#[108, 101, 97, 102]⟩ l = tagSum ⟨#[108, 101, 97, 102]⟩ [bs l.flatten] := by unfold chainOf; rw [cutName_short _ (by decide)]
def leafRes (seed : ByteArray) (leaf bits : Int) : List UInt8 := if rightB bits && decide (0 ≤ leaf) then leafOf seed leaf bits.toNat else zero8 32
def leafErr (leaf bits : Int) : Int := if rightB bits && decide (0 ≤ leaf) then 0 else 1
theorem leafRes_length (seed : ByteArray) (leaf bits : Int) : (leafRes seed leaf bits).length = 32 := by unfold leafRes; split; exact leafOf_length _ _ _; rfl
end Go.Proofs.Ytkbapegohodcgaa
end
section
/- lamport's reference of a leaf; two rows of ids held against each other: contracts. -/
namespace Go.Proofs.Ytkbapegohodcgaa
open Go.RowKit
open Go.Qk hiding rotr b4
set_option maxHeartbeats 1000000
set_option maxRecDepth 100000
theorem flatten_len (l : List (List UInt8)) (h : ∀ s ∈ l, s.length = 32) : l.flatten.length = 32 * l.length := by
  have := flatten_take_len l h l.length (Nat.le_refl _)
  rwa [List.take_length] at this
end Go.Proofs.Ytkbapegohodcgaa
end
section
/- The law LamportLeaves: walk. -/
namespace Go.Proofs.Ytkbapegohodcgaa
open Go.RowKit
open Go.Qk hiding rotr b4
set_option maxHeartbeats 1000000
set_option maxRecDepth 100000
end Go.Proofs.Ytkbapegohodcgaa
end
section
/- lamport.Publics, lamport.Recover: contracts. -/
namespace Go.Proofs.Ytkbapegohodcgaa
open Go.RowKit
open Go.Qk hiding rotr b4
set_option maxHeartbeats 1000000
set_option maxRecDepth 100000
def pubG (sum : List UInt8) (shown hidden : List (List UInt8)) (b s : Nat) : List UInt8 := if bitI sum b = (s : Int) then publicOf (shown.getD b []) else (if hidden.getD b [] = [] then zero8 32 else hidden.getD b [])
theorem pubG_length (sum : List UInt8) (shown hidden : List (List UInt8)) (hh : ∀ s ∈ hidden, s.length = 32) (b s : Nat) : (pubG sum shown hidden b s).length = 32 := by
  unfold pubG
  split
  · exact publicOf_length _
  · split
    · rfl
    · rename_i h
      by_cases hb : b < hidden.length
      · exact getD_mem_len hh hb
      · exact absurd (by simp [hb]) h
theorem pubG_hid (sum : List UInt8) (shown hidden : List (List UInt8)) (hh : ∀ s ∈ hidden, s.length = 32) (b s : Nat) (hb : b < hidden.length) (h : ¬ bitI sum b = (s : Int)) : pubG sum shown hidden b s = hidden.getD b [] := by
  have := getD_mem_len hh hb
  unfold pubG
  rw [if_neg h, if_neg]
  intro e
  rw [e] at this
  simp at this
def pubRow (sum : List UInt8) (shown hidden : List (List UInt8)) : List (List UInt8) := bothRow (pubG sum shown hidden) shown.length
def pubOk (shown hidden : List (List UInt8)) : Bool := decide (shown.length = hidden.length) && rightB (shown.length : Int)
def RetIdsE (B : Nat) (w : World) (xs : List (List UInt8)) (err : Int) (e : Ending) (w' : World) : Prop := ∃ v, e = .returned (.tuple #[v, .int .i64 err]) ∧ OwnIds 45 B w' v xs ∧ Below w.heap.size w w'
def pubRes (sum : List UInt8) (shown hidden : List (List UInt8)) : List (List UInt8) := if pubOk shown hidden then pubRow sum shown hidden else []
def pubErr (shown hidden : List (List UInt8)) : Int := if pubOk shown hidden then 0 else 3
theorem pub_right {n : Nat} (h : rightB (n : Int) = true) : 8 ≤ n ∧ n ≤ 256 := by simp [rightB] at h; omega
def recRes (sum : List UInt8) (shown hidden : List (List UInt8)) : List UInt8 := if pubOk shown hidden then chainOf ⟨#[108, 101, 97, 102]⟩ (pubRow sum shown hidden) else zero8 32
theorem recRes_length (sum : List UInt8) (shown hidden : List (List UInt8)) : (recRes sum shown hidden).length = 32 := by unfold recRes; split; exact chainOf_length _ _; rfl
end Go.Proofs.Ytkbapegohodcgaa
end
section
/- lamport.Sign, its reference: contracts. -/
namespace Go.Proofs.Ytkbapegohodcgaa
open Go.RowKit
open Go.Qk hiding rotr b4
set_option maxHeartbeats 1000000
set_option maxRecDepth 100000
theorem bitI_range (l : List UInt8) (n : Nat) : 0 ≤ bitI l n ∧ bitI l n ≤ 1 := by
  unfold bitI
  omega
def shownG (seed : ByteArray) (leaf : Int) (sum : List UInt8) (b : Nat) : List UInt8 := secretOf seed leaf b (bitI sum b)
def hiddenG (seed : ByteArray) (leaf : Int) (sum : List UInt8) (b : Nat) : List UInt8 := publicOf (secretOf seed leaf b (1 - bitI sum b))
def rowOf (g : Nat → List UInt8) (n : Nat) : List (List UInt8) := (List.range n).map g
theorem rowOf_succ (g : Nat → List UInt8) (n : Nat) : rowOf g (n + 1) = rowOf g n ++ [g n] := by simp [rowOf, List.range_succ]
theorem rowOf_length (g : Nat → List UInt8) (n : Nat) : (rowOf g n).length = n := by simp [rowOf]
theorem rowOf_32 (g : Nat → List UInt8) (hg : ∀ b, (g b).length = 32) (n : Nat) : ∀ s ∈ rowOf g n, s.length = 32 := by
  intro s hs
  obtain ⟨b, _, rfl⟩ := List.mem_map.1 hs
  exact hg b
theorem shownG_length (seed : ByteArray) (leaf : Int) (sum : List UInt8) (b : Nat) : (shownG seed leaf sum b).length = 32 := secretOf_length _ _ _ _
theorem hiddenG_length (seed : ByteArray) (leaf : Int) (sum : List UInt8) (b : Nat) : (hiddenG seed leaf sum b).length = 32 := publicOf_length _
def RetSign (B : Nat) (w : World) (xs ys : List (List UInt8)) (err : List Value) (e : Ending) (w' : World) : Prop := ∃ v u, e = .returned (.tuple (v :: u :: err).toArray) ∧ OwnIds 45 B w' v xs ∧ OwnIds 45 B w' u ys ∧ Below w.heap.size w w'
theorem own_empty (w : World) (B : Nat) (hB : B ≤ w.heap.size) (W : World) (h : W.heap[w.heap.size]? = some (.cells #[] 45 (0, 0))) : OwnIds 45 B W (.slice (some ⟨w.heap.size, 0, none⟩) 0 0) [] :=
  ⟨⟨rfl, .inr ⟨w.heap.size, 0, #[], rfl, hB, h, Nat.le_refl _, by simp [maxLen], rfl, rfl⟩⟩, fun _ h => by cases h⟩
end Go.Proofs.Ytkbapegohodcgaa
end
section
/- The law LamportSigns: what is signed is recovered; walk. -/
namespace Go.Proofs.Ytkbapegohodcgaa
open Go.RowKit
open Go.Qk hiding rotr b4
set_option maxHeartbeats 1000000
set_option maxRecDepth 100000
theorem bothRow_congr (g h : Nat → Nat → List UInt8) (n : Nat) (H : ∀ b, b < n → g b 0 = h b 0 ∧ g b 1 = h b 1) : bothRow g n = bothRow h n := by
  induction n with
  | zero => rfl
  | succ n ih => rw [bothRow_succ, bothRow_succ, ih (fun b hb => H b (by omega)), (H n (by omega)).1, (H n (by omega)).2]
theorem rowOf_getD (g : Nat → List UInt8) (n b : Nat) (h : b < n) : (rowOf g n).getD b [] = g b := by simp [rowOf, h]
theorem sign_pub (seed : ByteArray) (leaf : Int) (sum : List UInt8) (n b s : Nat) (hb : b < n) (hs : s ≤ 1) : pubG sum (rowOf (shownG seed leaf sum) n) (rowOf (hiddenG seed leaf sum) n) b s = leafPub seed leaf b s := by
  have hr := bitI_range sum b
  by_cases he : bitI sum b = (s : Int)
  · unfold pubG
    rw [if_pos he, rowOf_getD _ _ _ hb, shownG, he]
    rfl
  · rw [pubG_hid _ _ _ (rowOf_32 _ (hiddenG_length seed leaf sum) n) _ _ (by rw [rowOf_length]; exact hb) he, rowOf_getD _ _ _ hb, hiddenG, show 1 - bitI sum b = (s : Int) by omega]
    rfl
theorem sign_ok (seed : ByteArray) (leaf : Int) (sum : List UInt8) (n : Nat) (hr : rightB (n : Int) = true) : pubOk (rowOf (shownG seed leaf sum) n) (rowOf (hiddenG seed leaf sum) n) = true := by
  unfold pubOk
  rw [rowOf_length, rowOf_length, hr]
  simp
theorem sign_rec (seed : ByteArray) (leaf : Int) (sum : List UInt8) (n : Nat) (hr : rightB (n : Int) = true) : recRes sum (rowOf (shownG seed leaf sum) n) (rowOf (hiddenG seed leaf sum) n) = leafOf seed leaf n := by
  unfold recRes
  rw [if_pos (sign_ok seed leaf sum n hr), pubRow, rowOf_length, bothRow_congr _ (leafPub seed leaf) n (fun b hb => ⟨sign_pub seed leaf sum n b 0 hb (by omega), sign_pub seed leaf sum n b 1 hb (by omega)⟩)]
  rfl
end Go.Proofs.Ytkbapegohodcgaa
end
