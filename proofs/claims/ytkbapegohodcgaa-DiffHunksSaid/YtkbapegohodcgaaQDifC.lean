/- diff.Of's row of hunks in memory: what it is, and what one step does to it. -/
import Derived.Test.YtkbapegohodcgaaQDifB
set_option linter.unusedSimpArgs false
set_option linter.unusedVariables false
namespace Go.Proofs.Ytkbapegohodcgaa
open Go.RowKit
open Go.Qk hiding rotr b4
set_option maxHeartbeats 1000000
set_option maxRecDepth 100000
structure HkO where
  pos : Nat
  o : Value
  n : Value
def HkO.cells (h : HkO) : List Value := [.int .i64 (h.pos : Int), h.o, h.n]
def hkCells (hv : List HkO) : List Value := (hv.map HkO.cells).flatten
def HkO.blks (h : HkO) : List Nat := h.o.ownBlock.toList ++ h.n.ownBlock.toList
def hkBlks (hv : List HkO) : List Nat := (hv.map HkO.blks).flatten
/-- One hunk's rows. -/
structure HkAt (w : World) (B : Nat) (h : HkO) (x : Dif.Hk ByteArray) : Prop where
  pos : h.pos = x.pos
  old : w.ownsRow B 9 1 h.o x.old.length (x.old.map Value.string)
  new : w.ownsRow B 9 1 h.n x.new.length (x.new.map Value.string)
structure HkS (w : World) (B : Nat) (ov : Value) (hv : List HkO) (L : List (Dif.Hk ByteArray)) : Prop where
  len : hv.length = L.length
  own : w.ownsRow B 77 3 ov L.length (hkCells hv)
  each : ∀ (k : Nat) (h : HkO) (x : Dif.Hk ByteArray), hv[k]? = some h → L[k]? = some x → HkAt w B h x
  sep : (hkBlks hv).Nodup
theorem HkAt.fr {w w' : World} {D : Nat → Prop} {B : Nat} {h : HkO} {x : Dif.Hk ByteArray} (hh : HkAt w B h x) (hf : Fr D w w') (hd : ∀ b ∈ h.blks, ¬ D b) : HkAt w' B h x :=
  ⟨hh.pos, hf.own hh.old (fun k hk => hd k (by simp [HkO.blks, hk])), hf.own hh.new (fun k hk => hd k (by simp [HkO.blks, hk]))⟩
theorem blks_mem {hv : List HkO} {k : Nat} {h : HkO} {b : Nat} (hk : hv[k]? = some h) (hb : b ∈ h.blks) : b ∈ hkBlks hv := by
  unfold hkBlks
  rw [List.mem_flatten]
  exact ⟨h.blks, List.mem_map.2 ⟨h, List.mem_of_getElem? hk, rfl⟩, hb⟩
theorem HkS.fr {w w' : World} {D : Nat → Prop} {B : Nat} {ov : Value} {hv : List HkO} {L : List (Dif.Hk ByteArray)} (hs : HkS w B ov hv L) (hf : Fr D w w') (hd : ∀ b ∈ hkBlks hv, ¬ D b) (ho : ∀ b, ov.ownBlock = some b → ¬ D b) : HkS w' B ov hv L :=
  ⟨hs.len, hf.own hs.own ho, fun k h x hk hx => (hs.each k h x hk hx).fr hf (fun b hb => hd b (blks_mem hk hb)), hs.sep⟩
theorem HkS.blk_lt {w : World} {B : Nat} {ov : Value} {hv : List HkO} {L : List (Dif.Hk ByteArray)} (hs : HkS w B ov hv L) {b : Nat} (hb : b ∈ hkBlks hv) : B ≤ b ∧ b < w.heap.size ∧ ∃ cs fr, w.heap[b]? = some (.cells cs 9 fr) := by
  unfold hkBlks at hb
  rw [List.mem_flatten] at hb
  obtain ⟨l, hl, hb⟩ := hb
  obtain ⟨h, hm, rfl⟩ := List.mem_map.1 hl
  obtain ⟨k, hk⟩ := List.getElem?_of_mem hm
  have hkl : k < L.length := by rw [← hs.len]; exact (List.getElem?_eq_some_iff.1 hk).1
  have he := hs.each k h L[k] hk (by simp [hkl])
  have main : ∀ v n xs, w.ownsRow B 9 1 v n xs → v.ownBlock = some b → B ≤ b ∧ b < w.heap.size ∧ ∃ cs fr, w.heap[b]? = some (.cells cs 9 fr) := fun v n xs ho hv => by
    have h1 := own_lt ho hv
    refine ⟨h1.1, h1.2, ?_⟩
    rcases ho.2 with ⟨rfl, _⟩ | ⟨g, cap, cur, rfl, _, h2, _⟩
    · simp [Value.ownBlock] at hv
    · simp only [Value.ownBlock, Option.some.injEq] at hv
      subst hv
      exact ⟨_, _, h2⟩
  simp only [HkO.blks, List.mem_append, Option.mem_toList] at hb
  rcases hb with hb | hb
  · exact main _ _ _ he.old hb
  · exact main _ _ _ he.new hb
end Go.Proofs.Ytkbapegohodcgaa
