/- diff.Of's state in memory: its cells, the table, the hunks; the closure in both ways; a line more. -/
import Derived.Test.YtkbapegohodcgaaQDifD
set_option linter.unusedSimpArgs false
set_option linter.unusedVariables false
namespace Go.Proofs.Ytkbapegohodcgaa
open Go.RowKit
open Go.Qk hiding rotr b4
set_option maxHeartbeats 1000000
set_option maxRecDepth 100000
theorem TabAt.fr {w w1 : World} {D : Nat → Prop} {o : Nat} {r : Nat → Nat} {n m : Nat} {V : Nat → Nat → Nat} (h : TabAt w o r n m V) (hf : Fr D w w1) (ho : ¬ D o) (hr : ∀ a, a < n → ¬ D (r a)) : TabAt w1 o r n m V :=
  ⟨hf.blk h.out ho, fun a ha => hf.blk (h.row a ha) (hr a ha), h.ne, h.inj⟩
structure DofC (w : World) (B g8 g7 g10 o : Nat) (r : Nat → Nat) (xs ys : List ByteArray) (ov : Value) (opn : Bool) (j : Nat) : Prop where
  c7 : w.heap[g7]? = some (.cells #[ov] 65 (0, 0))
  c8 : w.heap[g8]? = some (.cells #[.bool opn] 4 (0, 0))
  c10 : w.heap[g10]? = some (.cells #[.int .i64 (j : Int)] 3 (0, 0))
  tab : TabAt w o r (xs.length + 1) (ys.length + 1) (Dif.kAt xs ys)
  n10 : ∀ a, a < xs.length + 1 → r a ≠ g10
  l7 : B ≤ g7
  l8 : B ≤ g8
  l10 : B ≤ g10
/-- Blocks of texts and of hunks alone. -/
def TxtD (w : World) (D : Nat → Prop) : Prop := ∀ k, D k → k < w.heap.size → ∃ cs t fr, w.heap[k]? = some (.cells cs t fr) ∧ (t = 9 ∨ t = 77)
theorem TxtD.not {w : World} {D : Nat → Prop} (hd : TxtD w D) {k : Nat} {cs : Array Value} {t : TypeId} {fr : Nat × Nat} (hk : w.heap[k]? = some (.cells cs t fr)) (h1 : t ≠ 9) (h2 : t ≠ 77) : ¬ D k := fun hD => by
  obtain ⟨cs', t', fr', e, ht⟩ := hd k hD (blk_lt hk)
  rw [e] at hk
  injection hk with hk
  injection hk with _ hk _
  subst hk
  rcases ht with ht | ht
  · exact h1 ht
  · exact h2 ht
theorem DofC.fr {w w1 : World} {D : Nat → Prop} {B g8 g7 g10 o : Nat} {r : Nat → Nat} {xs ys : List ByteArray} {ov : Value} {opn : Bool} {j : Nat} (h : DofC w B g8 g7 g10 o r xs ys ov opn j) (hf : Fr D w w1) (hd : TxtD w D) : DofC w1 B g8 g7 g10 o r xs ys ov opn j :=
  ⟨hf.blk h.c7 (hd.not h.c7 (by decide) (by decide)), hf.blk h.c8 (hd.not h.c8 (by decide) (by decide)), hf.blk h.c10 (hd.not h.c10 (by decide) (by decide)),
   h.tab.fr hf (hd.not h.tab.out (by decide) (by decide)) (fun a ha => hd.not (h.tab.row a ha) (by decide) (by decide)), h.n10, h.l7, h.l8, h.l10⟩
theorem DofC.grow {w w1 : World} {B g8 g7 g10 o : Nat} {r : Nat → Nat} {xs ys : List ByteArray} {ov : Value} {opn : Bool} {j : Nat} (h : DofC w B g8 g7 g10 o r xs ys ov opn j) (hg : Grow w w1) : DofC w1 B g8 g7 g10 o r xs ys ov opn j :=
  h.fr (D := fun _ => False) (fr_grow hg) (fun _ h => h.elim)
theorem HkS.grow {w w1 : World} {B : Nat} {ov : Value} {hv : List HkO} {L : List (Dif.Hk ByteArray)} (h : HkS w B ov hv L) (hg : Grow w w1) : HkS w1 B ov hv L :=
  h.fr (D := fun _ => False) (fr_grow hg) (fun _ _ h => h) (fun _ _ h => h)
theorem own_blk_ty {w : World} {B : Nat} {e : TypeId} {sz n : Nat} {v : Value} {xs : List Value} (h : w.ownsRow B e sz v n xs) {k : Nat} (hk : v.ownBlock = some k) : ∃ cs fr, w.heap[k]? = some (.cells cs e fr) := by
  rcases h.2 with ⟨rfl, _⟩ | ⟨g, cap, cur, rfl, _, h2, _⟩
  · simp [Value.ownBlock] at hk
  · simp only [Value.ownBlock, Option.some.injEq] at hk
    subst hk
    exact ⟨_, _, h2⟩
theorem HkS.split {w : World} {B : Nat} {ov : Value} {hv : List HkO} {L : List (Dif.Hk ByteArray)} (hs : HkS w B ov hv L) (hL : 0 < L.length) : ∃ hv1 h1, hv = hv1 ++ [h1] := by
  rcases List.eq_nil_or_concat hv with rfl | ⟨a, b, rfl⟩
  · have := hs.len; simp at this; omega
  · exact ⟨a, b, by simp⟩
theorem HkS.lastCells {w : World} {B gb c : Nat} {hv : List HkO} {L : List (Dif.Hk ByteArray)} {h : HkO} {x : Dif.Hk ByteArray} (hs : HkS w B (.slice (some ⟨gb, 0, none⟩) (L.length + 1) c) (hv ++ [h]) (L ++ [x])) :
    ∃ cur, w.heap[gb]? = some (.cells cur 77 (0, 0)) ∧ B ≤ gb ∧ cur[L.length * 3 + 1]? = some h.o ∧ cur[L.length * 3 + 2]? = some h.n ∧ (L.length + 1) * 3 ≤ cur.size := by
  obtain ⟨hl, _⟩ := hs.last
  have ho := hs.own
  rw [List.length_append] at ho
  obtain ⟨_, ⟨h1, _⟩ | ⟨g', cap', cur', h1, h2, h3, h4, h5, h6, h7⟩⟩ := ho
  · cases h1
  · cases h1
    have h8 : cur'.toList.take ((L.length + 1) * 3) = hkCells hv ++ h.cells := by rw [← hkCells_snoc]; exact h7
    have hz : (L.length + 1) * 3 ≤ cur'.size := by
      rw [h6]
      exact Nat.mul_le_mul_right 3 h4
    have get : ∀ i v, i < 3 → h.cells[i]? = some v → cur'[L.length * 3 + i]? = some v := fun i v hi hv' => by
      have e1 : (cur'.toList.take ((L.length + 1) * 3))[L.length * 3 + i]? = cur'.toList[L.length * 3 + i]? := by
        rw [List.getElem?_take, if_pos (by omega)]
      rw [h8, List.getElem?_append_right (by rw [hkCells_len, hl]; omega), hkCells_len, hl, show L.length * 3 + i - L.length * 3 = i by omega, hv'] at e1
      rw [← Array.getElem?_toList]
      exact e1.symm
    exact ⟨cur', h3, h2, get 1 _ (by omega) rfl, get 2 _ (by omega) rfl, hz⟩
theorem growAny (g8 g7 g10 o B : Nat) (r : Nat → Nat) (xs ys : List ByteArray) (ov : Value) (hv : List HkO) (s : Dif.DSt ByteArray) (w : World) (hs : HkS w B ov hv s.out) (hc : DofC w B g8 g7 g10 o r xs ys ov s.now.isSome s.j) (hB : B ≤ w.heap.size) (hn : s.out.length ≤ 100000) :
    Calls Try.prog 97 #[.pointer (some ⟨g8, 0, none⟩), .pointer (some ⟨g7, 0, none⟩), .pointer (some ⟨g10, 0, none⟩)] w fun e w' => ∃ gb c hv1 h1, e = .returned (.pointer (some ⟨gb, s.fin.length * 3, none⟩)) ∧ HkS w' B (.slice (some ⟨gb, 0, none⟩) (s.fin.length + 1) c) (hv1 ++ [h1]) (s.fin ++ [s.hk]) ∧ DofC w' B g8 g7 g10 o r xs ys (.slice (some ⟨gb, 0, none⟩) (s.fin.length + 1) c) true s.j ∧ Below B w w' := by
  obtain ⟨i, j, fin, now⟩ := s
  cases now with
  | none =>
    have ho : Dif.DSt.out (⟨i, j, fin, none⟩ : Dif.DSt ByteArray) = fin := by simp [Dif.DSt.out]
    rw [ho] at hs hn
    refine (growNew g8 g7 g10 j fin.length B hn ov (hkCells hv) w hc.c8 hc.c7 hc.c10 hs.own hB).mono ?_
    rintro e w' ⟨gb, c, rfl, h1, h2, h3, hf, hm⟩
    have hdty : ∀ k cs t fr, w.heap[k]? = some (.cells cs t fr) → t ≠ 65 → t ≠ 4 → t ≠ 77 → ¬ (k = g7 ∨ k = g8 ∨ ov.ownBlock = some k) := fun k cs t fr hk q1 q2 q3 hD => by
      rcases hD with e | e | e
      · exact blk_ne hk hc.c7 q1 e
      · exact blk_ne hk hc.c8 q2 e
      · obtain ⟨cs', fr', h'⟩ := own_blk_ty hs.own e
        exact blk_ne hk h' q3 rfl
    refine ⟨gb, c, hv, ⟨j, .slice none 0 0, .slice none 0 0⟩, rfl, hs.snoc h1 hf (fun b hb => ?_), ⟨h2, h3, hf.blk hc.c10 (hdty _ _ _ _ hc.c10 (by decide) (by decide) (by decide)), hc.tab.fr hf (hdty _ _ _ _ hc.tab.out (by decide) (by decide) (by decide)) (fun a ha => hdty _ _ _ _ (hc.tab.row a ha) (by decide) (by decide) (by decide)), hc.n10, hc.l7, hc.l8, hc.l10⟩, hf.below (fun k hk => ?_) hB⟩
    · obtain ⟨_, _, cs, fr, hcs⟩ := hs.blk_lt hb
      exact hdty _ _ _ _ hcs (by decide) (by decide) (by decide)
    · rcases hk with rfl | rfl | e
      · exact hc.l7
      · exact hc.l8
      · exact (own_lt hs.own e).1
  | some h =>
    have ho : Dif.DSt.out (⟨i, j, fin, some h⟩ : Dif.DSt ByteArray) = fin ++ [h] := by simp [Dif.DSt.out]
    rw [ho] at hs hn
    have hown := hs.own
    rw [List.length_append] at hown
    obtain ⟨_, ⟨_, h0⟩ | ⟨gb, c, cur, rfl, h2, h3, _⟩⟩ := hown
    · simp at h0
    obtain ⟨hv1, h1, rfl⟩ := hs.split (by simp)
    refine (growOpen g8 g7 g10 gb fin.length c (by simp at hn; omega) w (blk_cell hc.c8 rfl) (blk_cell hc.c7 rfl)).mono ?_
    rintro e w' ⟨rfl, hb⟩
    exact ⟨gb, c, hv1, h1, rfl, hs.grow hb, hc.grow hb, hb.mono hB⟩
/-- An old line more in the last hunk. -/
theorem dofOld {w w1 W : World} {B g8 g7 g10 o gb c j : Nat} {r : Nat → Nat} {xs ys : List ByteArray} {hv : List HkO} {L : List (Dif.Hk ByteArray)} {h : HkO} {x : Dif.Hk ByteArray} {o' : Value} {s : ByteArray} {cur : Array Value} (hs : HkS w B (.slice (some ⟨gb, 0, none⟩) (L.length + 1) c) (hv ++ [h]) (L ++ [x]))
    (hc : DofC w B g8 g7 g10 o r xs ys (.slice (some ⟨gb, 0, none⟩) (L.length + 1) c) true j) (ho : w1.ownsRow B 9 1 o' (x.old.length + 1) (x.old.map Value.string ++ [.string s])) (hgr : w.grownBy w1 h.o.ownBlock) (hm : Moved w h.o o') (hcb : w1.heap[gb]? = some (.cells cur 77 (0, 0)))
    (hW : W.heap[gb]? = some (.cells (cur.setIfInBounds (L.length * 3 + 1) o') 77 (0, 0))) (hg2 : w1.grownBy W (some gb)) :
    HkS W B (.slice (some ⟨gb, 0, none⟩) (L.length + 1) c) (hv ++ [⟨h.pos, o', h.n⟩]) (L ++ [⟨x.pos, x.old ++ [s], x.new⟩]) ∧ DofC W B g8 g7 g10 o r xs ys (.slice (some ⟨gb, 0, none⟩) (L.length + 1) c) true j := by
  refine ⟨hs.addOld ho hgr hm hcb hW hg2, ?_⟩
  obtain ⟨_, hA⟩ := hs.last
  obtain ⟨cur0, h0, _⟩ := hs.lastCells
  refine (hc.fr (D := fun k => h.o.ownBlock = some k) (fr_grown hgr (fun k hk => .inl hk)) (fun k hk _ => ?_)).fr (D := fun k => k = gb) (fr_grown hg2 (fun k hk => .inl (Option.some.inj hk).symm)) (fun k hk _ => ?_)
  · obtain ⟨cs, fr, e⟩ := own_blk_ty hA.old hk
    exact ⟨_, _, _, e, .inl rfl⟩
  · subst hk
    exact ⟨_, _, _, hcb, .inr rfl⟩
/-- A new line more in the last hunk. -/
theorem dofNew {w w1 W : World} {B g8 g7 g10 o gb c j : Nat} {r : Nat → Nat} {xs ys : List ByteArray} {hv : List HkO} {L : List (Dif.Hk ByteArray)} {h : HkO} {x : Dif.Hk ByteArray} {n' : Value} {s : ByteArray} {cur : Array Value} (hs : HkS w B (.slice (some ⟨gb, 0, none⟩) (L.length + 1) c) (hv ++ [h]) (L ++ [x]))
    (hc : DofC w B g8 g7 g10 o r xs ys (.slice (some ⟨gb, 0, none⟩) (L.length + 1) c) true j) (ho : w1.ownsRow B 9 1 n' (x.new.length + 1) (x.new.map Value.string ++ [.string s])) (hgr : w.grownBy w1 h.n.ownBlock) (hm : Moved w h.n n') (hcb : w1.heap[gb]? = some (.cells cur 77 (0, 0)))
    (hW : W.heap[gb]? = some (.cells (cur.setIfInBounds (L.length * 3 + 2) n') 77 (0, 0))) (hg2 : w1.grownBy W (some gb)) :
    HkS W B (.slice (some ⟨gb, 0, none⟩) (L.length + 1) c) (hv ++ [⟨h.pos, h.o, n'⟩]) (L ++ [⟨x.pos, x.old, x.new ++ [s]⟩]) ∧ DofC W B g8 g7 g10 o r xs ys (.slice (some ⟨gb, 0, none⟩) (L.length + 1) c) true j := by
  refine ⟨hs.addNew ho hgr hm hcb hW hg2, ?_⟩
  obtain ⟨_, hA⟩ := hs.last
  obtain ⟨cur0, h0, _⟩ := hs.lastCells
  refine (hc.fr (D := fun k => h.n.ownBlock = some k) (fr_grown hgr (fun k hk => .inl hk)) (fun k hk _ => ?_)).fr (D := fun k => k = gb) (fr_grown hg2 (fun k hk => .inl (Option.some.inj hk).symm)) (fun k hk _ => ?_)
  · obtain ⟨cs, fr, e⟩ := own_blk_ty hA.new hk
    exact ⟨_, _, _, e, .inl rfl⟩
  · subst hk
    exact ⟨_, _, _, hcb, .inr rfl⟩
/-- j is stored. -/
theorem dofJ {w W : World} {B g8 g7 g10 o j j' : Nat} {r : Nat → Nat} {xs ys : List ByteArray} {ov : Value} {opn : Bool} {hv : List HkO} {L : List (Dif.Hk ByteArray)} (hs : HkS w B ov hv L) (hc : DofC w B g8 g7 g10 o r xs ys ov opn j)
    (hW : W.heap[g10]? = some (.cells #[.int .i64 (j' : Int)] 3 (0, 0))) (hg : w.grownBy W (some g10)) : HkS W B ov hv L ∧ DofC W B g8 g7 g10 o r xs ys ov opn j' := by
  have hf : Fr (fun k => k = g10) w W := fr_grown hg (fun k hk => .inl (Option.some.inj hk).symm)
  refine ⟨hs.fr hf (fun b hb e => ?_) (fun b hb e => ?_), ⟨hf.blk hc.c7 (fun e => blk_ne hc.c7 hc.c10 (by decide) e), hf.blk hc.c8 (fun e => blk_ne hc.c8 hc.c10 (by decide) e), hW, hc.tab.fr hf (fun e => blk_ne hc.tab.out hc.c10 (by decide) e) (fun a ha e => hc.n10 a ha e), hc.n10, hc.l7, hc.l8, hc.l10⟩⟩
  · obtain ⟨_, _, cs, fr, hcs⟩ := hs.blk_lt hb
    exact blk_ne hcs hc.c10 (by decide) e
  · obtain ⟨cs, fr, h'⟩ := own_blk_ty hs.own hb
    exact blk_ne h' hc.c10 (by decide) e
/-- 'open' is stored. -/
theorem dofOpen {w W : World} {B g8 g7 g10 o j : Nat} {r : Nat → Nat} {xs ys : List ByteArray} {ov : Value} {opn b' : Bool} {hv : List HkO} {L : List (Dif.Hk ByteArray)} (hs : HkS w B ov hv L) (hc : DofC w B g8 g7 g10 o r xs ys ov opn j)
    (hW : W.heap[g8]? = some (.cells #[.bool b'] 4 (0, 0))) (hg : w.grownBy W (some g8)) : HkS W B ov hv L ∧ DofC W B g8 g7 g10 o r xs ys ov b' j := by
  have hf : Fr (fun k => k = g8) w W := fr_grown hg (fun k hk => .inl (Option.some.inj hk).symm)
  refine ⟨hs.fr hf (fun b hb e => ?_) (fun b hb e => ?_), ⟨hf.blk hc.c7 (fun e => blk_ne hc.c7 hc.c8 (by decide) e), hW, hf.blk hc.c10 (fun e => blk_ne hc.c10 hc.c8 (by decide) e), hc.tab.fr hf (fun e => blk_ne hc.tab.out hc.c8 (by decide) e) (fun a ha e => blk_ne (hc.tab.row a ha) hc.c8 (by decide) e), hc.n10, hc.l7, hc.l8, hc.l10⟩⟩
  · obtain ⟨_, _, cs, fr, hcs⟩ := hs.blk_lt hb
    exact blk_ne hcs hc.c8 (by decide) e
  · obtain ⟨cs, fr, h'⟩ := own_blk_ty hs.own hb
    exact blk_ne h' hc.c8 (by decide) e
theorem dofStart {w : World} {B o : Nat} {r : Nat → Nat} {xs ys : List ByteArray} (ht : TabAt w o r (xs.length + 1) (ys.length + 1) (Dif.kAt xs ys)) (hB : B ≤ w.heap.size) :
    HkS (((w.alloc (.cells #[.slice none 0 0] 65)).alloc (.cells #[.bool false] 4)).alloc (.cells #[.int .i64 0] 3)) B (.slice none 0 0) [] [] ∧
    DofC (((w.alloc (.cells #[.slice none 0 0] 65)).alloc (.cells #[.bool false] 4)).alloc (.cells #[.int .i64 0] 3)) B (w.heap.size + 1) w.heap.size (w.heap.size + 1 + 1) o r xs ys (.slice none 0 0) false 0 ∧
    Grow w (((w.alloc (.cells #[.slice none 0 0] 65)).alloc (.cells #[.bool false] 4)).alloc (.cells #[.int .i64 0] 3)) := by
  have ga := grow_alloc w (.cells #[.slice none 0 0] 65)
  have na := heap_alloc_new w (.cells #[.slice none 0 0] 65)
  have sa : (w.alloc (.cells #[.slice none 0 0] 65)).heap.size = w.heap.size + 1 := by simp
  generalize w.alloc (.cells #[.slice none 0 0] 65) = w1 at *
  have gb := grow_alloc w1 (.cells #[.bool false] 4)
  have nb := heap_alloc_new w1 (.cells #[.bool false] 4)
  have sb : (w1.alloc (.cells #[.bool false] 4)).heap.size = w1.heap.size + 1 := by simp
  generalize w1.alloc (.cells #[.bool false] 4) = w2 at *
  have gc := grow_alloc w2 (.cells #[.int .i64 0] 3)
  have nc := heap_alloc_new w2 (.cells #[.int .i64 0] 3)
  generalize w2.alloc (.cells #[.int .i64 0] 3) = w3 at *
  rw [sa] at nb sb
  rw [sb] at nc
  refine ⟨⟨rfl, World.ownsRow_nil _ _ _ _, fun k h x hk _ => by simp at hk, by simp [hkBlks]⟩, ⟨grow_block na (gb.trans gc), grow_block nb gc, nc, ht.grow (ga.trans (gb.trans gc)), fun a ha => ?_, hB, by omega, by omega⟩, ga.trans (gb.trans gc)⟩
  have := blk_lt (ht.row a ha)
  omega
theorem hks_len {α : Type} : ∀ (l : List (Dif.Hk α)), (∀ h ∈ l, 0 < h.old.length + h.new.length) → l.length ≤ Dif.hksSize l
  | [], _ => Nat.zero_le _
  | h :: t, hh => by
    have h1 := hks_len t (fun x hx => hh x (List.mem_cons_of_mem _ hx))
    have h2 := hh h List.mem_cons_self
    have h3 : Dif.hksSize (h :: t) = h.old.length + h.new.length + Dif.hksSize t := by simp [Dif.hksSize, Dif.hkSize]
    simp only [List.length_cons]
    omega
theorem stD_bounds (xs ys : List ByteArray) (k : Nat) (s : Dif.DSt ByteArray) (hs : Dif.stD ByteArray.empty xs ys k = s) : s.i ≤ xs.length ∧ s.j ≤ ys.length ∧ s.out.length ≤ s.i + s.j ∧ s.hk.old.length ≤ s.i + s.j ∧ s.hk.new.length ≤ s.i + s.j := by
  subst hs
  obtain ⟨p, q, I⟩ := Dif.inv_at ByteArray.empty xs ys k
  have h1 := (Dif.close_inv I).2.2.2.2.1
  have h2 := hks_len _ h1
  have h3 := I.cost
  have h4 := Dif.out_size (Dif.stD ByteArray.empty xs ys k)
  unfold Dif.hkSize at h4
  exact ⟨I.hi, I.hj, by omega, by omega, by omega⟩
/-- A slice of one element is made in a drawn region. -/
theorem does_one {P : Program} {T e : TypeId} {o : Oper} {a : Act} {w : World} {y : Operand} {u z : Value} {cs : List Value} {size bytes : Nat} (ho : o.op = .buildSlice T 1 #[(0, y)]) (hy : a.eval y = u) (hu : u.cells = cs.toArray) (hl : cs.length = size)
    (ht : P.underlying T = some (.slice e)) (hi : (P.info? e).map (fun i => (i.zero, i.size, i.bytes)) = some (some z, size, bytes)) (hz : z.cells.size = size) (hs : 0 < size) (hn : size ≤ 16777216) :
    Does P o a w (fun v w' => ∃ g, v = .slice (some ⟨g, 0, none⟩) 1 1 ∧ Grow w w' ∧ ∀ j u, cs[j]? = some u → w'.cell? ((⟨g, 0, none⟩ : Addr).add j) = some u) :=
  (does_build1 ho hy hu hl ht hi hz hs hn).mono fun v w' ⟨h1, h2⟩ => ⟨w.heap.size, h1, h2 ▸ grow_alloc _ _, fun j u hj => h2 ▸ cells_new _ _ _ j u hj⟩
theorem infoStrZ : (Try.prog.info? 9).map (fun i => (i.zero, i.size, i.bytes)) = some (some (.string ByteArray.empty), 1, 16) := by kernel_rfl
theorem infoStrsS : (Try.prog.info? 22).map (·.size) = some 1 := by kernel_rfl
theorem frame143 (T : Array Value) (h : T.size = 143) : ∃ U : Nat → Value, T = #[U 0, U 1, U 2, U 3, U 4, U 5, U 6, U 7, U 8, U 9, U 10, U 11, U 12, U 13, U 14, U 15, U 16, U 17, U 18, U 19, U 20, U 21, U 22, U 23, U 24, U 25, U 26, U 27, U 28, U 29, U 30, U 31, U 32, U 33, U 34, U 35, U 36, U 37, U 38, U 39, U 40, U 41, U 42, U 43, U 44, U 45, U 46, U 47, U 48, U 49, U 50, U 51, U 52, U 53, U 54, U 55, U 56, U 57, U 58, U 59, U 60, U 61, U 62, U 63, U 64, U 65, U 66, U 67, U 68, U 69, U 70, U 71, U 72, U 73, U 74, U 75, U 76, U 77, U 78, U 79, U 80, U 81, U 82, U 83, U 84, U 85, U 86, U 87, U 88, U 89, U 90, U 91, U 92, U 93, U 94, U 95, U 96, U 97, U 98, U 99, U 100, U 101, U 102, U 103, U 104, U 105, U 106, U 107, U 108, U 109, U 110, U 111, U 112, U 113, U 114, U 115, U 116, U 117, U 118, U 119, U 120, U 121, U 122, U 123, U 124, U 125, U 126, U 127, U 128, U 129, U 130, U 131, U 132, U 133, U 134, U 135, U 136, U 137, U 138, U 139, U 140, U 141, U 142] ∧ ∀ k, T.getD k undef = U k := by
  refine ⟨fun k => T.getD k undef, ?_, fun _ => rfl⟩
  have e : T = ((List.range 143).map fun k => T.getD k undef).toArray := by
    apply Array.ext
    · simp [h]
    · intro i h1 h2
      simp [h1]
  exact e.trans rfl
end Go.Proofs.Ytkbapegohodcgaa
