/- diff.Of's row of hunks: a hunk more; a line more in the last one. -/
import Derived.Test.YtkbapegohodcgaaQDifC
set_option linter.unusedSimpArgs false
set_option linter.unusedVariables false
namespace Go.Proofs.Ytkbapegohodcgaa
open Go.RowKit
open Go.Qk hiding rotr b4
set_option maxHeartbeats 1000000
set_option maxRecDepth 100000
theorem hkCells_snoc (hv : List HkO) (h : HkO) : hkCells (hv ++ [h]) = hkCells hv ++ h.cells := by simp [hkCells]
theorem hkBlks_snoc (hv : List HkO) (h : HkO) : hkBlks (hv ++ [h]) = hkBlks hv ++ h.blks := by simp [hkBlks]
theorem hkCells_len (hv : List HkO) : (hkCells hv).length = hv.length * 3 := by
  induction hv with
  | nil => rfl
  | cons h t ih =>
    have : hkCells (h :: t) = h.cells ++ hkCells t := rfl
    rw [this, List.length_append, ih, List.length_cons]
    have : h.cells.length = 3 := rfl
    omega
theorem snoc_at {α : Type} {l : List α} {a b : α} {k : Nat} (h : (l ++ [a])[k]? = some b) : l[k]? = some b ∨ (k = l.length ∧ b = a) := by
  by_cases hk : k < l.length
  · rw [List.getElem?_append_left hk] at h; exact .inl h
  · rw [List.getElem?_append_right (by omega)] at h
    have : k - l.length = 0 := by
      have := (List.getElem?_eq_some_iff.1 h).1
      simp at this
      omega
    rw [this] at h
    simp at h
    exact .inr ⟨by omega, h.symm⟩
theorem HkS.snoc {w w' : World} {D : Nat → Prop} {B j : Nat} {ov ov' : Value} {hv : List HkO} {L : List (Dif.Hk ByteArray)} (hs : HkS w B ov hv L) (ho : w'.ownsRow B 77 3 ov' (L.length + 1) (hkCells hv ++ [.int .i64 (j : Int), .slice none 0 0, .slice none 0 0])) (hf : Fr D w w') (hd : ∀ b ∈ hkBlks hv, ¬ D b) :
    HkS w' B ov' (hv ++ [⟨j, .slice none 0 0, .slice none 0 0⟩]) (L ++ [⟨j, [], []⟩]) := by
  refine ⟨by simp [hs.len], by rw [hkCells_snoc, List.length_append]; exact ho, fun k h x hk hx => ?_, ?_⟩
  · rcases snoc_at hk with hk1 | ⟨hk1, rfl⟩ <;> rcases snoc_at hx with hx1 | ⟨hx1, rfl⟩
    · exact (hs.each k h x hk1 hx1).fr hf (fun b hb => hd b (blks_mem hk1 hb))
    · have := (List.getElem?_eq_some_iff.1 hk1).1; have := hs.len; omega
    · have := (List.getElem?_eq_some_iff.1 hx1).1; have := hs.len; omega
    · exact ⟨rfl, World.ownsRow_nil _ _ _ _, World.ownsRow_nil _ _ _ _⟩
  · rw [hkBlks_snoc]
    have : HkO.blks ⟨j, .slice none 0 0, .slice none 0 0⟩ = [] := rfl
    rw [this, List.append_nil]
    exact hs.sep
theorem toList_nodup (o : Option Nat) : o.toList.Nodup := by cases o <;> simp
/-- A block that has moved: the list stays without doubles. -/
theorem nodup_moved {P Q : List Nat} {o o' : Option Nat} {N : Nat} (h : (P ++ (o.toList ++ Q)).Nodup) (hm : ∀ k, o' = some k → o = some k ∨ N ≤ k) (hp : ∀ b ∈ P, b < N) (hq : ∀ b ∈ Q, b < N) : (P ++ (o'.toList ++ Q)).Nodup := by
  rw [List.nodup_append] at h ⊢
  obtain ⟨h1, h2, h3⟩ := h
  rw [List.nodup_append] at h2 ⊢
  obtain ⟨h4, h5, h6⟩ := h2
  refine ⟨h1, ⟨toList_nodup o', h5, fun a ha b hb e => ?_⟩, fun a ha b hb e => ?_⟩
  · subst e
    rw [Option.mem_toList] at ha
    rcases hm a ha with h7 | h7
    · exact h6 a (by simp [h7]) a hb rfl
    · have := hq a hb; omega
  · subst e
    rcases List.mem_append.1 hb with hb | hb
    · rw [Option.mem_toList] at hb
      rcases hm a hb with h7 | h7
      · exact h3 a ha a (by simp [h7]) rfl
      · have := hp a ha; omega
    · exact h3 a ha a (List.mem_append_right _ hb) rfl
theorem HkS.last {w : World} {B : Nat} {ov : Value} {hv : List HkO} {L : List (Dif.Hk ByteArray)} {h : HkO} {x : Dif.Hk ByteArray} (hs : HkS w B ov (hv ++ [h]) (L ++ [x])) : hv.length = L.length ∧ HkAt w B h x := by
  have hl : hv.length = L.length := by have := hs.len; simp at this; exact this
  exact ⟨hl, hs.each hv.length h x (by simp) (by rw [hl]; simp)⟩
/-- The last hunk's rows are others, the rest is as it was. -/
theorem HkS.setLast {w W : World} {D : Nat → Prop} {B : Nat} {ov : Value} {hv : List HkO} {L : List (Dif.Hk ByteArray)} {h h' : HkO} {x x' : Dif.Hk ByteArray} (hs : HkS w B ov (hv ++ [h]) (L ++ [x])) (hf : Fr D w W) (hd : ∀ b ∈ hkBlks hv, ¬ D b) (hA : HkAt W B h' x')
    (hown : W.ownsRow B 77 3 ov (L.length + 1) (hkCells hv ++ h'.cells)) (hsep : (hkBlks hv ++ h'.blks).Nodup) : HkS W B ov (hv ++ [h']) (L ++ [x']) := by
  obtain ⟨hl, _⟩ := hs.last
  refine ⟨by simp [hl], by rw [hkCells_snoc, List.length_append]; exact hown, fun k a b hk hx => ?_, by rw [hkBlks_snoc]; exact hsep⟩
  rcases snoc_at hk with hk1 | ⟨hk1, rfl⟩ <;> rcases snoc_at hx with hx1 | ⟨hx1, rfl⟩
  · exact (hs.each k a b (by rw [List.getElem?_append_left (List.getElem?_eq_some_iff.1 hk1).1]; exact hk1) (by rw [List.getElem?_append_left (List.getElem?_eq_some_iff.1 hx1).1]; exact hx1)).fr hf (fun b hb => hd b (blks_mem hk1 hb))
  · have := (List.getElem?_eq_some_iff.1 hk1).1; omega
  · have := (List.getElem?_eq_some_iff.1 hx1).1; omega
  · exact hA
theorem set_cells1 (hv : List HkO) (h : HkO) (o' : Value) : (hkCells (hv ++ [h])).set (hv.length * 3 + 1) o' = hkCells hv ++ (HkO.cells ⟨h.pos, o', h.n⟩) := by
  rw [hkCells_snoc, List.set_append_right _ _ (by rw [hkCells_len]; omega), hkCells_len, show hv.length * 3 + 1 - hv.length * 3 = 1 by omega]
  rfl
theorem set_cells2 (hv : List HkO) (h : HkO) (n' : Value) : (hkCells (hv ++ [h])).set (hv.length * 3 + 2) n' = hkCells hv ++ (HkO.cells ⟨h.pos, h.o, n'⟩) := by
  rw [hkCells_snoc, List.set_append_right _ _ (by rw [hkCells_len]; omega), hkCells_len, show hv.length * 3 + 2 - hv.length * 3 = 2 by omega]
  rfl
/-- append to the last hunk's old lines, and the hunk's own cell written. -/
theorem HkS.addOld {w w1 W : World} {B gb c : Nat} {hv : List HkO} {L : List (Dif.Hk ByteArray)} {h : HkO} {x : Dif.Hk ByteArray} {o' : Value} {s : ByteArray} {cur : Array Value} (hs : HkS w B (.slice (some ⟨gb, 0, none⟩) (L.length + 1) c) (hv ++ [h]) (L ++ [x]))
    (ho : w1.ownsRow B 9 1 o' (x.old.length + 1) (x.old.map Value.string ++ [.string s])) (hgr : w.grownBy w1 h.o.ownBlock) (hm : Moved w h.o o') (hc : w1.heap[gb]? = some (.cells cur 77 (0, 0)))
    (hW : W.heap[gb]? = some (.cells (cur.setIfInBounds (L.length * 3 + 1) o') 77 (0, 0))) (hg2 : w1.grownBy W (some gb)) :
    HkS W B (.slice (some ⟨gb, 0, none⟩) (L.length + 1) c) (hv ++ [⟨h.pos, o', h.n⟩]) (L ++ [⟨x.pos, x.old ++ [s], x.new⟩]) := by
  obtain ⟨hl, hA⟩ := hs.last
  have hsep := hs.sep
  rw [hkBlks_snoc] at hsep
  have hown0 : w.ownsRow B 77 3 (.slice (some ⟨gb, 0, none⟩) (L.length + 1) c) (L.length + 1) (hkCells (hv ++ [h])) := by have := hs.own; rwa [List.length_append] at this
  have hof : ∀ k, h.o.ownBlock = some k → k ≠ gb := fun k hk e => own_types_ne hA.old hown0 (by decide) k hk (by rw [e]; rfl)
  have hf1 : Fr (fun k => h.o.ownBlock = some k) w w1 := fr_grown hgr (fun k hk => .inl hk)
  have hf2 : Fr (fun k => k = gb) w1 W := fr_grown hg2 (fun k hk => .inl (Option.some.inj hk).symm)
  have hown1 := hf1.own hown0 (fun k hk e => hof k e (Option.some.inj hk).symm)
  have hown2 := own_set (i := L.length * 3 + 1) hown1 hc hW (by omega)
  rw [← hl, set_cells1, hl] at hown2
  have hf : Fr (fun k => h.o.ownBlock = some k ∨ k = gb) w W := (hf1.mono fun k hk => .inl hk).trans (hf2.mono fun k hk => .inr hk)
  have hne : ∀ b ∈ hkBlks (hv ++ [h]), b ≠ gb := fun b hb e => by
    obtain ⟨_, _, cs, fr, hcs⟩ := hs.blk_lt hb
    obtain ⟨_, ⟨h1, _⟩ | ⟨g', cap', cur', h1, h2, h3, _⟩⟩ := hown0
    · cases h1
    · cases h1
      exact blk_ne hcs h3 (by decide) e
  refine hs.setLast hf (fun b hb => ?_) ⟨hA.pos, ?_, ?_⟩ hown2 ?_
  · rintro (h1 | h1)
    · rw [List.nodup_append] at hsep
      exact hsep.2.2 b hb b (by simp [HkO.blks, h1]) rfl
    · exact hne b (by rw [hkBlks_snoc]; exact List.mem_append_left _ hb) h1
  · have hb2 : W.ownsRow B 9 1 o' (x.old.length + 1) (x.old.map Value.string ++ [.string s]) := hf2.own ho (fun k hk e => own_ne_blk ho hc (by decide) (by rw [hk, e]))
    show W.ownsRow B 9 1 o' (x.old ++ [s]).length ((x.old ++ [s]).map Value.string)
    rw [List.length_append, List.map_append]
    exact hb2
  · refine hf.own hA.new (fun k hk => ?_)
    rintro (h1 | h1)
    · rw [List.nodup_append] at hsep
      have := hsep.2.1
      unfold HkO.blks at this
      rw [List.nodup_append] at this
      exact this.2.2 k (by simp [h1]) k (by simp [hk]) rfl
    · exact hne k (by rw [hkBlks_snoc]; exact List.mem_append_right _ (by simp [HkO.blks, hk])) h1
  · unfold HkO.blks at hsep ⊢
    refine nodup_moved (N := w.heap.size) hsep hm (fun b hb => ?_) (fun b hb => ?_)
    · exact (hs.blk_lt (by rw [hkBlks_snoc]; exact List.mem_append_left _ hb)).2.1
    · exact (hs.blk_lt (by rw [hkBlks_snoc]; exact List.mem_append_right _ (by unfold HkO.blks; exact List.mem_append_right _ hb))).2.1
/-- append to the last hunk's new lines, and the hunk's own cell written. -/
theorem HkS.addNew {w w1 W : World} {B gb c : Nat} {hv : List HkO} {L : List (Dif.Hk ByteArray)} {h : HkO} {x : Dif.Hk ByteArray} {n' : Value} {s : ByteArray} {cur : Array Value} (hs : HkS w B (.slice (some ⟨gb, 0, none⟩) (L.length + 1) c) (hv ++ [h]) (L ++ [x]))
    (ho : w1.ownsRow B 9 1 n' (x.new.length + 1) (x.new.map Value.string ++ [.string s])) (hgr : w.grownBy w1 h.n.ownBlock) (hm : Moved w h.n n') (hc : w1.heap[gb]? = some (.cells cur 77 (0, 0)))
    (hW : W.heap[gb]? = some (.cells (cur.setIfInBounds (L.length * 3 + 2) n') 77 (0, 0))) (hg2 : w1.grownBy W (some gb)) :
    HkS W B (.slice (some ⟨gb, 0, none⟩) (L.length + 1) c) (hv ++ [⟨h.pos, h.o, n'⟩]) (L ++ [⟨x.pos, x.old, x.new ++ [s]⟩]) := by
  obtain ⟨hl, hA⟩ := hs.last
  have hsep := hs.sep
  rw [hkBlks_snoc] at hsep
  have hown0 : w.ownsRow B 77 3 (.slice (some ⟨gb, 0, none⟩) (L.length + 1) c) (L.length + 1) (hkCells (hv ++ [h])) := by have := hs.own; rwa [List.length_append] at this
  have hof : ∀ k, h.n.ownBlock = some k → k ≠ gb := fun k hk e => own_types_ne hA.new hown0 (by decide) k hk (by rw [e]; rfl)
  have hf1 : Fr (fun k => h.n.ownBlock = some k) w w1 := fr_grown hgr (fun k hk => .inl hk)
  have hf2 : Fr (fun k => k = gb) w1 W := fr_grown hg2 (fun k hk => .inl (Option.some.inj hk).symm)
  have hown1 := hf1.own hown0 (fun k hk e => hof k e (Option.some.inj hk).symm)
  have hown2 := own_set (i := L.length * 3 + 2) hown1 hc hW (by omega)
  rw [← hl, set_cells2, hl] at hown2
  have hf : Fr (fun k => h.n.ownBlock = some k ∨ k = gb) w W := (hf1.mono fun k hk => .inl hk).trans (hf2.mono fun k hk => .inr hk)
  have hne : ∀ b ∈ hkBlks (hv ++ [h]), b ≠ gb := fun b hb e => by
    obtain ⟨_, _, cs, fr, hcs⟩ := hs.blk_lt hb
    obtain ⟨_, ⟨h1, _⟩ | ⟨g', cap', cur', h1, h2, h3, _⟩⟩ := hown0
    · cases h1
    · cases h1
      exact blk_ne hcs h3 (by decide) e
  refine hs.setLast hf (fun b hb => ?_) ⟨hA.pos, ?_, ?_⟩ hown2 ?_
  · rintro (h1 | h1)
    · rw [List.nodup_append] at hsep
      exact hsep.2.2 b hb b (by simp [HkO.blks, h1]) rfl
    · exact hne b (by rw [hkBlks_snoc]; exact List.mem_append_left _ hb) h1
  · refine hf.own hA.old (fun k hk => ?_)
    rintro (h1 | h1)
    · rw [List.nodup_append] at hsep
      have := hsep.2.1
      unfold HkO.blks at this
      rw [List.nodup_append] at this
      exact this.2.2 k (by simp [hk]) k (by simp [h1]) rfl
    · exact hne k (by rw [hkBlks_snoc]; exact List.mem_append_right _ (by simp [HkO.blks, hk])) h1
  · have hb2 : W.ownsRow B 9 1 n' (x.new.length + 1) (x.new.map Value.string ++ [.string s]) := hf2.own ho (fun k hk e => own_ne_blk ho hc (by decide) (by rw [hk, e]))
    show W.ownsRow B 9 1 n' (x.new ++ [s]).length ((x.new ++ [s]).map Value.string)
    rw [List.length_append, List.map_append]
    exact hb2
  · unfold HkO.blks at hsep ⊢
    have h2 := nodup_moved (P := hkBlks hv ++ h.o.ownBlock.toList) (Q := []) (o := h.n.ownBlock) (o' := n'.ownBlock) (N := w.heap.size) (by rw [List.append_nil, List.append_assoc]; exact hsep) hm (fun b hb => ?_) (fun b hb => by cases hb)
    · rwa [List.append_nil, List.append_assoc] at h2
    · rcases List.mem_append.1 hb with hb | hb
      · exact (hs.blk_lt (by rw [hkBlks_snoc]; exact List.mem_append_left _ hb)).2.1
      · exact (hs.blk_lt (by rw [hkBlks_snoc]; exact List.mem_append_right _ (by unfold HkO.blks; exact List.mem_append_left _ hb))).2.1
end Go.Proofs.Ytkbapegohodcgaa
