/- disk.put and the clones of bytes and of writes: contracts. -/
import Derived.Test.YtabkaflccaklhaaQFr
import Derived.Test.YtabkaflccaklhaaQIdx1
import Derived.Test.YtabkaflccaklhaaQEager
set_option linter.unusedSimpArgs false
set_option linter.unusedVariables false
namespace Go.Qk
open Go.RowKit
theorem own_ne_blk {w : World} {B : Nat} {e t : TypeId} {sz n : Nat} {v : Value} {xs : List Value} {g : Nat} {cs : Array Value} {fr : Nat × Nat} (h : w.ownsRow B e sz v n xs) (hb : w.heap[g]? = some (.cells cs t fr)) (hne : e ≠ t) : v.ownBlock ≠ some g := by
  rcases h.2 with ⟨rfl, _⟩ | ⟨k, cap, cur, rfl, h1, h2, _⟩
  · simp [Value.ownBlock]
  · intro hk
    simp only [Value.ownBlock, Option.some.injEq] at hk
    subst hk
    rw [h2] at hb
    injection hb with hb
    injection hb with _ hb _
    exact hne hb
theorem blk_other' {w w' : World} {h : Nat} {Y : Obj} {row : Option Nat} (hg : w.grownBy w' row) (hh : w.heap[h]? = some Y) (hne : row ≠ some h) : w'.heap[h]? = some Y := by
  rw [hg.block h (Array.getElem?_eq_some_iff.1 hh).1 (fun e => hne e.symm)]; exact hh
/-- A row whose block was written in its middle. -/
theorem own_splice {w W : World} {B : Nat} {e : TypeId} {g n cap : Nat} {xs news : List Value} {cur : Array Value} {p : Nat} (h : w.ownsRow B e 1 (.slice (some ⟨g, 0, none⟩) n cap) n xs) (hg : w.heap[g]? = some (.cells cur e (0, 0)))
    (hW : W.heap[g]? = some (.cells (cur.toList.take p ++ news ++ cur.toList.drop (p + news.length)).toArray e (0, 0))) (hp : p + news.length ≤ n) : W.ownsRow B e 1 (.slice (some ⟨g, 0, none⟩) n cap) n (xs.take p ++ news ++ xs.drop (p + news.length)) := by
  rcases h with ⟨h0, ⟨h1, _⟩ | ⟨g', cap', cur', h1, h2, h3, h4, h5, h6, h7⟩⟩
  · cases h1
  · cases h1
    rw [h3] at hg
    injection hg with hg
    injection hg with hg _ _
    subst hg
    rw [Nat.mul_one] at h0 h6 h7
    have hcl : cur'.toList.length = cap := by simpa using h6
    obtain ⟨tl, htl⟩ : ∃ tl, cur'.toList = xs ++ tl := ⟨cur'.toList.drop n, by rw [← h7]; exact (List.take_append_drop n _).symm⟩
    have e : cur'.toList.take p ++ news ++ cur'.toList.drop (p + news.length) = (xs.take p ++ news ++ xs.drop (p + news.length)) ++ tl := by
      rw [htl, List.take_append_of_le_length (by omega), List.drop_append_of_le_length (by omega)]
      simp only [List.append_assoc]
    have hl : (xs.take p ++ news ++ xs.drop (p + news.length)).length = n := by simp; omega
    rw [e] at hW
    refine ⟨by rw [hl, Nat.mul_one], .inr ⟨g, cap, _, rfl, h2, hW, h4, h5, ?_, ?_⟩⟩
    · have : (xs ++ tl).length = cap := by rw [← htl]; exact hcl
      simp only [List.size_toArray, List.length_append, hl, Nat.mul_one] at this ⊢
      omega
    · show List.take (n * 1) ((xs.take p ++ news ++ xs.drop (p + news.length)) ++ tl) = _
      rw [Nat.mul_one, List.take_append_of_le_length (by omega), List.take_of_length_le (by omega)]
end Go.Qk
namespace Go.Proofs.Ytabkaflccaklhaa
open Go.RowKit
open Go.Qk hiding rotr b4
set_option maxHeartbeats 1000000
set_option maxRecDepth 100000
theorem szU8' : (Try.prog.info? 5).map (·.size) = some 1 := by kernel_rfl
theorem run_bytesFrom {ad : Addr} {n c k : Nat} (hk : k ≤ n) (hc : n ≤ c) (hkc : k < c) (w : World) : (Instr.sliceAt 51 (.slice (some ad) n c) (some (.int .i64 (k : Int))) none none).run Try.prog w = .ok (.slice (some (ad.add k)) (n - k) (c - k)) w := by
  have h1 : (k : Int) ≤ (n : Int) := by omega
  have h2 : (0 : Int) ≤ (k : Int) := by omega
  have h3 : (n : Int) ≤ (c : Int) := by omega
  have h4 : ¬ c = k := by omega
  go_simp
def putL (l : List UInt8) (p : Nat) (s : List UInt8) : List UInt8 := (l ++ List.replicate (p + s.length - l.length) 0).take p ++ s ++ (l ++ List.replicate (p + s.length - l.length) 0).drop (p + s.length)
end Go.Proofs.Ytabkaflccaklhaa
