/- quitclaimref12.Of: its state in memory, what each step does to it; contract. -/
import Derived.Test.YtkbapegohodcgaaQDifM
set_option linter.unusedSimpArgs false
set_option linter.unusedVariables false
namespace Go.Proofs.Ytkbapegohodcgaa
open Go.RowKit
open Go.Qk hiding rotr b4
set_option maxHeartbeats 8000000
set_option maxRecDepth 100000
structure RfS (w : World) (B gn : Nat) (ov : Value) (hv : List HkO) (h : HkO) (L : List (Dif.Hk ByteArray)) (x : Dif.Hk ByteArray) : Prop where
  len : hv.length = L.length
  own : w.ownsRow B 79 3 ov L.length (hkCells hv)
  each : ∀ (k : Nat) (h : HkO) (x : Dif.Hk ByteArray), hv[k]? = some h → L[k]? = some x → HkAt w B h x
  now : HkAt w B h x
  cell : w.heap[gn]? = some (.cells h.cells.toArray 79 (0, 0))
  sep : (hkBlks hv ++ h.blks).Nodup
  low : B ≤ gn
  ne : ∀ k, ov.ownBlock = some k → k ≠ gn
theorem row_str_blk {w : World} {B n : Nat} {v : Value} {xs : List Value} (ho : w.ownsRow B 9 1 v n xs) {b : Nat} (hb : v.ownBlock = some b) : B ≤ b ∧ b < w.heap.size ∧ ∃ cs fr, w.heap[b]? = some (.cells cs 9 fr) :=
  ⟨(own_lt ho hb).1, (own_lt ho hb).2, own_blk_ty ho hb⟩
theorem HkAt.blk {w : World} {B : Nat} {h : HkO} {x : Dif.Hk ByteArray} (hh : HkAt w B h x) {b : Nat} (hb : b ∈ h.blks) : B ≤ b ∧ b < w.heap.size ∧ ∃ cs fr, w.heap[b]? = some (.cells cs 9 fr) := by
  simp only [HkO.blks, List.mem_append, Option.mem_toList] at hb
  rcases hb with hb | hb
  · exact row_str_blk hh.old hb
  · exact row_str_blk hh.new hb
theorem RfS.blk {w : World} {B gn : Nat} {ov : Value} {hv : List HkO} {h : HkO} {L : List (Dif.Hk ByteArray)} {x : Dif.Hk ByteArray} (hs : RfS w B gn ov hv h L x) {b : Nat} (hb : b ∈ hkBlks hv) : B ≤ b ∧ b < w.heap.size ∧ ∃ cs fr, w.heap[b]? = some (.cells cs 9 fr) := by
  unfold hkBlks at hb
  rw [List.mem_flatten] at hb
  obtain ⟨l, hl, hb⟩ := hb
  obtain ⟨h, hm, rfl⟩ := List.mem_map.1 hl
  obtain ⟨k, hk⟩ := List.getElem?_of_mem hm
  have hkl : k < L.length := by rw [← hs.len]; exact (List.getElem?_eq_some_iff.1 hk).1
  exact (hs.each k h L[k] hk (by simp [hkl])).blk hb
theorem RfS.grow {w w1 : World} {B gn : Nat} {ov : Value} {hv : List HkO} {h : HkO} {L : List (Dif.Hk ByteArray)} {x : Dif.Hk ByteArray} (hs : RfS w B gn ov hv h L x) (hg : Grow w w1) : RfS w1 B gn ov hv h L x :=
  have hf : Fr (fun _ => False) w w1 := fr_grow hg
  ⟨hs.len, own_grow hs.own hg, fun k h x hk hx => (hs.each k h x hk hx).fr hf (fun _ _ h => h), hs.now.fr hf (fun _ _ h => h), grow_block hs.cell hg, hs.sep, hs.low, hs.ne⟩
theorem str_ne_ref : (9 : TypeId) ≠ 79 := by decide
/-- The last hunk's rows are others; the others' blocks are as they were. -/
theorem RfS.setNow {w W : World} {D : Nat → Prop} {B gn : Nat} {ov : Value} {hv : List HkO} {h h' : HkO} {L : List (Dif.Hk ByteArray)} {x x' : Dif.Hk ByteArray} (hs : RfS w B gn ov hv h L x) (hf : Fr D w W) (hd : ∀ b ∈ hkBlks hv, ¬ D b) (hov : ∀ k, ov.ownBlock = some k → ¬ D k) (hA : HkAt W B h' x')
    (hc : W.heap[gn]? = some (.cells h'.cells.toArray 79 (0, 0))) (hsep : (hkBlks hv ++ h'.blks).Nodup) : RfS W B gn ov hv h' L x' :=
  ⟨hs.len, hf.own hs.own hov, fun k a b hk hx => (hs.each k a b hk hx).fr hf (fun b hb => hd b (blks_mem hk hb)), hA, hc, hsep, hs.low, hs.ne⟩
theorem rfOld {w w1 W : World} {B gn : Nat} {ov : Value} {hv : List HkO} {h : HkO} {L : List (Dif.Hk ByteArray)} {x : Dif.Hk ByteArray} {o' : Value} {s : ByteArray} (hs : RfS w B gn ov hv h L x)
    (ho : w1.ownsRow B 9 1 o' (x.old.length + 1) (x.old.map Value.string ++ [.string s])) (hgr : w.grownBy w1 h.o.ownBlock) (hm : Moved w h.o o') (hc : w1.heap[gn]? = some (.cells h.cells.toArray 79 (0, 0)))
    (hW : W.heap[gn]? = some (.cells (h.cells.toArray.setIfInBounds 1 o') 79 (0, 0))) (hg2 : w1.grownBy W (some gn)) :
    RfS W B gn ov hv ⟨h.pos, o', h.n⟩ L ⟨x.pos, x.old ++ [s], x.new⟩ := by
  have hA := hs.now
  have hsep := hs.sep
  have hf1 : Fr (fun k => h.o.ownBlock = some k) w w1 := fr_grown hgr (fun k hk => .inl hk)
  have hf2 : Fr (fun k => k = gn) w1 W := fr_grown hg2 (fun k hk => .inl (Option.some.inj hk).symm)
  have hf : Fr (fun k => h.o.ownBlock = some k ∨ k = gn) w W := (hf1.mono fun k hk => .inl hk).trans (hf2.mono fun k hk => .inr hk)
  refine hs.setNow hf (fun b hb => ?_) (fun k hk => ?_) ⟨hA.pos, ?_, ?_⟩ (by rw [hW]; rfl) ?_
  · rintro (h1 | h1)
    · rw [List.nodup_append] at hsep
      exact hsep.2.2 b hb b (by simp [HkO.blks, h1]) rfl
    · obtain ⟨_, _, cs, fr, hcs⟩ := hs.blk hb
      exact blk_ne hcs hs.cell str_ne_ref h1
  · rintro (h1 | h1)
    · exact own_types_ne hA.old hs.own str_ne_ref k h1 hk
    · exact hs.ne k hk h1
  · have hb2 : W.ownsRow B 9 1 o' (x.old.length + 1) (x.old.map Value.string ++ [.string s]) := hf2.own ho (fun k hk e => own_ne_blk ho hc str_ne_ref (by rw [hk, e]))
    show W.ownsRow B 9 1 o' (x.old ++ [s]).length ((x.old ++ [s]).map Value.string)
    rw [List.length_append, List.map_append]
    exact hb2
  · refine hf.own hA.new (fun k hk => ?_)
    rintro (h1 | h1)
    · rw [List.nodup_append] at hsep
      have := hsep.2.1
      unfold HkO.blks at this
      rw [List.nodup_append] at this
      exact this.2.2 k (by simp [h1]) k (by simp [hk]) rfl
    · obtain ⟨cs, fr, hcs⟩ := own_blk_ty hA.new hk
      exact blk_ne hcs hs.cell str_ne_ref h1
  · unfold HkO.blks at hsep ⊢
    refine nodup_moved (N := w.heap.size) hsep hm (fun b hb => ?_) (fun b hb => ?_)
    · exact (hs.blk hb).2.1
    · exact (hA.blk (by unfold HkO.blks; exact List.mem_append_right _ hb)).2.1
theorem rfNew {w w1 W : World} {B gn : Nat} {ov : Value} {hv : List HkO} {h : HkO} {L : List (Dif.Hk ByteArray)} {x : Dif.Hk ByteArray} {n' : Value} {s : ByteArray} (hs : RfS w B gn ov hv h L x)
    (ho : w1.ownsRow B 9 1 n' (x.new.length + 1) (x.new.map Value.string ++ [.string s])) (hgr : w.grownBy w1 h.n.ownBlock) (hm : Moved w h.n n') (hc : w1.heap[gn]? = some (.cells h.cells.toArray 79 (0, 0)))
    (hW : W.heap[gn]? = some (.cells (h.cells.toArray.setIfInBounds 2 n') 79 (0, 0))) (hg2 : w1.grownBy W (some gn)) :
    RfS W B gn ov hv ⟨h.pos, h.o, n'⟩ L ⟨x.pos, x.old, x.new ++ [s]⟩ := by
  have hA := hs.now
  have hsep := hs.sep
  have hf1 : Fr (fun k => h.n.ownBlock = some k) w w1 := fr_grown hgr (fun k hk => .inl hk)
  have hf2 : Fr (fun k => k = gn) w1 W := fr_grown hg2 (fun k hk => .inl (Option.some.inj hk).symm)
  have hf : Fr (fun k => h.n.ownBlock = some k ∨ k = gn) w W := (hf1.mono fun k hk => .inl hk).trans (hf2.mono fun k hk => .inr hk)
  refine hs.setNow hf (fun b hb => ?_) (fun k hk => ?_) ⟨hA.pos, ?_, ?_⟩ (by rw [hW]; rfl) ?_
  · rintro (h1 | h1)
    · rw [List.nodup_append] at hsep
      exact hsep.2.2 b hb b (by simp [HkO.blks, h1]) rfl
    · obtain ⟨_, _, cs, fr, hcs⟩ := hs.blk hb
      exact blk_ne hcs hs.cell str_ne_ref h1
  · rintro (h1 | h1)
    · exact own_types_ne hA.new hs.own str_ne_ref k h1 hk
    · exact hs.ne k hk h1
  · refine hf.own hA.old (fun k hk => ?_)
    rintro (h1 | h1)
    · rw [List.nodup_append] at hsep
      have := hsep.2.1
      unfold HkO.blks at this
      rw [List.nodup_append] at this
      exact this.2.2 k (by simp [hk]) k (by simp [h1]) rfl
    · obtain ⟨cs, fr, hcs⟩ := own_blk_ty hA.old hk
      exact blk_ne hcs hs.cell str_ne_ref h1
  · have hb2 : W.ownsRow B 9 1 n' (x.new.length + 1) (x.new.map Value.string ++ [.string s]) := hf2.own ho (fun k hk e => own_ne_blk ho hc str_ne_ref (by rw [hk, e]))
    show W.ownsRow B 9 1 n' (x.new ++ [s]).length ((x.new ++ [s]).map Value.string)
    rw [List.length_append, List.map_append]
    exact hb2
  · unfold HkO.blks at hsep ⊢
    have h2 := nodup_moved (P := hkBlks hv ++ h.o.ownBlock.toList) (Q := []) (o := h.n.ownBlock) (o' := n'.ownBlock) (N := w.heap.size) (by rw [List.append_nil, List.append_assoc]; exact hsep) hm (fun b hb => ?_) (fun b hb => by cases hb)
    · rwa [List.append_nil, List.append_assoc] at h2
    · rcases List.mem_append.1 hb with hb | hb
      · exact (hs.blk hb).2.1
      · exact (hA.blk (by unfold HkO.blks; exact List.mem_append_left _ hb)).2.1
/-- The hunk is put behind the others. -/
theorem rfPush {w w1 : World} {B gn : Nat} {ov ov' : Value} {hv : List HkO} {h : HkO} {L : List (Dif.Hk ByteArray)} {x : Dif.Hk ByteArray} (hs : RfS w B gn ov hv h L x) (ho : w1.ownsRow B 79 3 ov' (L.length + 1) (hkCells hv ++ h.cells)) (hgr : w.grownBy w1 ov.ownBlock) (hm : Moved w ov ov') :
    (∀ (k : Nat) (a : HkO) (b : Dif.Hk ByteArray), (hv ++ [h])[k]? = some a → (L ++ [x])[k]? = some b → HkAt w1 B a b) ∧ w1.heap[gn]? = some (.cells h.cells.toArray 79 (0, 0)) ∧ (∀ k, ov'.ownBlock = some k → k ≠ gn) ∧ (hkBlks (hv ++ [h])).Nodup := by
  have hf : Fr (fun k => ov.ownBlock = some k) w w1 := fr_grown hgr (fun k hk => .inl hk)
  have hty : ∀ b, (∃ cs fr, w.heap[b]? = some (.cells cs 9 fr)) → ¬ ov.ownBlock = some b := fun b ⟨cs, fr, hcs⟩ e => by
    obtain ⟨cs', fr', h'⟩ := own_blk_ty hs.own e
    exact blk_ne hcs h' str_ne_ref rfl
  refine ⟨fun k a b hk hx => ?_, hf.blk hs.cell (fun e => hs.ne _ e rfl), fun k hk => ?_, by rw [hkBlks_snoc]; exact hs.sep⟩
  · rcases snoc_at hk with hk1 | ⟨hk1, rfl⟩ <;> rcases snoc_at hx with hx1 | ⟨hx1, rfl⟩
    · have hh := hs.each k a b hk1 hx1
      exact hh.fr hf (fun c hc => hty c (hh.blk hc).2.2)
    · have := (List.getElem?_eq_some_iff.1 hk1).1; have := hs.len; omega
    · have := (List.getElem?_eq_some_iff.1 hx1).1; have := hs.len; omega
    · exact hs.now.fr hf (fun c hc => hty c (hs.now.blk hc).2.2)
  · rcases hm k hk with e | e
    · exact hs.ne k e
    · intro e2; have := blk_lt hs.cell; omega
theorem hk_new (w : World) (B j : Nat) : HkAt w B ⟨j, .slice none 0 0, .slice none 0 0⟩ ⟨j, [], []⟩ := ⟨rfl, World.ownsRow_nil _ _ _ _, World.ownsRow_nil _ _ _ _⟩
/-- A new hunk is begun. -/
theorem rfBegin {w W : World} {B gn j : Nat} {ov : Value} {hv : List HkO} {L : List (Dif.Hk ByteArray)} {cs : Array Value} (len : hv.length = L.length) (own : w.ownsRow B 79 3 ov L.length (hkCells hv)) (each : ∀ (k : Nat) (a : HkO) (b : Dif.Hk ByteArray), hv[k]? = some a → L[k]? = some b → HkAt w B a b) (sep : (hkBlks hv).Nodup) (low : B ≤ gn) (ne : ∀ k, ov.ownBlock = some k → k ≠ gn)
    (hc : w.heap[gn]? = some (.cells cs 79 (0, 0))) (hW : W.heap[gn]? = some (.cells #[.int .i64 (j : Int), .slice none 0 0, .slice none 0 0] 79 (0, 0))) (hg : w.grownBy W (some gn)) :
    RfS W B gn ov hv ⟨j, .slice none 0 0, .slice none 0 0⟩ L ⟨j, [], []⟩ := by
  have hf : Fr (fun k => k = gn) w W := fr_grown hg (fun k hk => .inl (Option.some.inj hk).symm)
  refine ⟨len, hf.own own (fun k hk => ne k hk), fun k a b hk hx => ?_, hk_new W B j, hW, ?_, low, ne⟩
  · have hh := each k a b hk hx
    refine hh.fr hf (fun c hcb e => ?_)
    obtain ⟨_, _, cs', fr', h'⟩ := hh.blk hcb
    exact blk_ne h' hc str_ne_ref e
  · have : HkO.blks ⟨j, .slice none 0 0, .slice none 0 0⟩ = [] := rfl
    rw [this, List.append_nil]
    exact sep
theorem RTab.fr {w w1 : World} {D : Nat → Prop} {B : Nat} {v : Value} {r : Nat → Nat} {n m : Nat} {V : Nat → Nat → Nat} (h : RTab w B v r n m V) (hf : Fr D w w1) (hd : ∀ k cs t fr, w.heap[k]? = some (.cells cs t fr) → t = 73 ∨ t = 3 → ¬ D k) : RTab w1 B v r n m V :=
  ⟨hf.own h.own (fun k hk => by obtain ⟨cs, fr, e⟩ := own_blk_ty h.own hk; exact hd k cs _ fr e (.inl rfl)), fun a ha => hf.blk (h.row a ha) (hd _ _ _ _ (h.row a ha) (.inr rfl))⟩
theorem RTab.grow {w w1 : World} {B : Nat} {v : Value} {r : Nat → Nat} {n m : Nat} {V : Nat → Nat → Nat} (h : RTab w B v r n m V) (hg : Grow w w1) : RTab w1 B v r n m V := h.fr (D := fun _ => False) (fr_grow hg) (fun _ _ _ _ _ _ h => h)
/-- A write into a row's block, or a cell, of another type leaves the table. -/
theorem RTab.grown {w w1 : World} {B : Nat} {v : Value} {r : Nat → Nat} {n m : Nat} {V : Nat → Nat → Nat} {row : Option Nat} {T : TypeId} (h : RTab w B v r n m V) (hg : w.grownBy w1 row) (hr : ∀ k, row = some k → ∃ cs fr, w.heap[k]? = some (.cells cs T fr)) (hT : T ≠ 73 ∧ T ≠ 3) : RTab w1 B v r n m V :=
  h.fr (D := fun k => row = some k) (fr_grown hg (fun k hk => .inl hk)) (fun k cs t fr hk ht hD => by
    obtain ⟨cs', fr', h'⟩ := hr k hD
    rcases ht with rfl | rfl
    · exact blk_ne h' hk hT.1 rfl
    · exact blk_ne h' hk hT.2 rfl)
theorem RTab.cellRow {w : World} {B o c : Nat} {r : Nat → Nat} {n m : Nat} {V : Nat → Nat → Nat} (h : RTab w B (.slice (some ⟨o, 0, none⟩) n c) r n m V) {a : Nat} (ha : a < n) : w.cell? ⟨o, a, none⟩ = some (ptrRow (r a) m) := by
  have := World.ownsRow.cells h.own (g := o) rfl a (ptrRow (r a) m) (by simp [ha])
  rw [addr_add0] at this
  exact this
theorem RTab.cellVal {w : World} {B : Nat} {v : Value} {r : Nat → Nat} {n m : Nat} {V : Nat → Nat → Nat} (h : RTab w B v r n m V) {a b : Nat} (ha : a < n) (hb : b < m) : w.cell? ⟨r a, b, none⟩ = some (.int .i64 (V a b : Int)) := blk_cell (h.row a ha) (by simp [rowV, hb])
theorem infoRfH : (Try.prog.info? 79).map (fun i => (i.zero, i.size, i.bytes)) = some (some (.agg #[.int .i64 0, .slice none 0 0, .slice none 0 0]), 3, 56) := by kernel_rfl
theorem infoRfS : (Try.prog.info? 79).map (·.size) = some 3 := by kernel_rfl
theorem stD_now (xs ys : List ByteArray) (k : Nat) (s : Dif.DSt ByteArray) (hs : Dif.stD ByteArray.empty xs ys k = s) : (0 < s.hk.old.length + s.hk.new.length ↔ s.now.isSome = true) := by
  subst hs
  obtain ⟨p, q, I⟩ := Dif.inv_at ByteArray.empty xs ys k
  unfold Dif.DSt.hk
  cases e : (Dif.stD ByteArray.empty xs ys k).now with
  | none => simp
  | some h => have := (I.now h e).2.2.2; simp; omega
/-- A row of hunks, of whichever type, as it is read. -/
theorem hk_open {w : World} {B : Nat} {T : TypeId} {ov : Value} {hv : List HkO} {L : List (Dif.Hk ByteArray)} (len : hv.length = L.length) (own : w.ownsRow B T 3 ov L.length (hkCells hv)) (each : ∀ (k : Nat) (a : HkO) (b : Dif.Hk ByteArray), hv[k]? = some a → L[k]? = some b → HkAt w B a b) (hL : L.length ≤ 1000000) : ∃ A c hs, ov = .slice A L.length c ∧ HkRd w A hs L := by
  obtain ⟨A, c, rfl, hsl⟩ := own_sl own
  have hone : ∀ k (hk : k < L.length), ∃ (hk2 : k < hv.length), (toV hv[k]).cells = hv[k].cells ∧ HkIs w (toV hv[k]) L[k] := fun k hk => by
    have hk2 : k < hv.length := by rw [len]; exact hk
    have ha := each k hv[k] L[k] (by simp [hk2]) (by simp [hk])
    obtain ⟨Ao, co, eo, ro⟩ := strRow_own ha.old
    obtain ⟨An, cn, en, rn⟩ := strRow_own ha.new
    have ep := ha.pos
    refine ⟨hk2, ?_, ?_⟩
    · simp only [toV, HkV.cells, HkO.cells, eo, en, slA, slN, slC]
    · constructor
      · show ((hv[k].pos : Nat) : Int) = _; rw [ep]
      · show _ = slN hv[k].o; rw [eo]; rfl
      · show _ = slN hv[k].n; rw [en]; rfl
      · show StrRow w (slA hv[k].o) _; rw [eo]; exact ro
      · show StrRow w (slA hv[k].n) _; rw [en]; exact rn
  refine ⟨A, c, hv.map toV, rfl, ⟨⟨by simp [len]; omega, fun hne => ?_⟩, by simp [len], fun k hk => ?_⟩⟩
  · have hne2 : hkCells hv ≠ [] := fun e => by
      apply hne
      have := hkCells_len hv
      rw [e] at this
      simp at this
      rw [List.eq_nil_of_length_eq_zero (by omega : hv.length = 0)]
      rfl
    obtain ⟨ad, rfl, hc⟩ := hsl hne2
    refine ⟨ad, rfl, fun i hi j v hj => ?_⟩
    have hi2 : i < hv.length := by simpa using hi
    obtain ⟨_, ec, _⟩ := hone i (by rw [← len]; exact hi2)
    have e1 : (hv.map toV).getD i hkv0 = toV hv[i] := by simp [hi2]
    rw [e1, ec] at hj
    rw [addr_add_add]
    exact hc _ _ (hkCells_get hv i j hv[i] v (by simp [hi2]) hj (by
      have := (List.getElem?_eq_some_iff.1 hj).1
      exact this))
  · obtain ⟨hk2, _, hi⟩ := hone k hk
    have e1 : (hv.map toV).getD k hkv0 = toV hv[k] := by simp [hk2]
    have e2 : L.getD k hk0 = L[k] := by simp [hk]
    rw [e1, e2]
    exact hi
theorem frame147 (T : Array Value) (h : T.size = 147) : ∃ U : Nat → Value, T = #[U 0, U 1, U 2, U 3, U 4, U 5, U 6, U 7, U 8, U 9, U 10, U 11, U 12, U 13, U 14, U 15, U 16, U 17, U 18, U 19, U 20, U 21, U 22, U 23, U 24, U 25, U 26, U 27, U 28, U 29, U 30, U 31, U 32, U 33, U 34, U 35, U 36, U 37, U 38, U 39, U 40, U 41, U 42, U 43, U 44, U 45, U 46, U 47, U 48, U 49, U 50, U 51, U 52, U 53, U 54, U 55, U 56, U 57, U 58, U 59, U 60, U 61, U 62, U 63, U 64, U 65, U 66, U 67, U 68, U 69, U 70, U 71, U 72, U 73, U 74, U 75, U 76, U 77, U 78, U 79, U 80, U 81, U 82, U 83, U 84, U 85, U 86, U 87, U 88, U 89, U 90, U 91, U 92, U 93, U 94, U 95, U 96, U 97, U 98, U 99, U 100, U 101, U 102, U 103, U 104, U 105, U 106, U 107, U 108, U 109, U 110, U 111, U 112, U 113, U 114, U 115, U 116, U 117, U 118, U 119, U 120, U 121, U 122, U 123, U 124, U 125, U 126, U 127, U 128, U 129, U 130, U 131, U 132, U 133, U 134, U 135, U 136, U 137, U 138, U 139, U 140, U 141, U 142, U 143, U 144, U 145, U 146] ∧ ∀ k, T.getD k undef = U k := by
  refine ⟨fun k => T.getD k undef, ?_, fun _ => rfl⟩
  have e : T = ((List.range 147).map fun k => T.getD k undef).toArray := by
    apply Array.ext
    · simp [h]
    · intro i h1 h2
      simp [h1]
  exact e.trans rfl
theorem one3 {p : Int} {x y : Value} (hx : x.oneCell' = true) (hy : y.oneCell' = true) : ∀ v ∈ [Value.int .i64 p, x, y], v.oneCell' = true := by
  intro v hv
  simp only [List.mem_cons, List.not_mem_nil, or_false] at hv
  rcases hv with rfl | rfl | rfl
  · rfl
  · exact hx
  · exact hy
theorem slOne (w : World) (l : List Value) (t : TypeId) : SlCells (w.alloc (Obj.cells l.toArray t)) (some ⟨w.heap.size, 0, none⟩) l := fun _ => ⟨_, rfl, cells_block (tl := []) (by rw [List.append_nil]; exact heap_alloc_new _ _)⟩
theorem rfStart (w : World) (B : Nat) (hB : B ≤ w.heap.size) :
    RfS ((w.alloc (Obj.cells #[] 79)).alloc (Obj.cells #[Value.int IntKind.i64 0, Value.slice none 0 0, Value.slice none 0 0] 79)) B (w.heap.size + 1) (.slice (some ⟨w.heap.size, 0, none⟩) 0 0) [] ⟨0, .slice none 0 0, .slice none 0 0⟩ [] ⟨0, [], []⟩ ∧
    Grow w ((w.alloc (Obj.cells #[] 79)).alloc (Obj.cells #[Value.int IntKind.i64 0, Value.slice none 0 0, Value.slice none 0 0] 79)) := by
  have ho := empty_row w B 79 3 hB
  have ga := grow_alloc w (.cells #[] 79)
  have sa : (w.alloc (.cells #[] 79)).heap.size = w.heap.size + 1 := by simp
  generalize w.alloc (.cells #[] 79) = w1 at *
  have gb := grow_alloc w1 (Obj.cells #[Value.int IntKind.i64 0, Value.slice none 0 0, Value.slice none 0 0] 79)
  have nb := heap_alloc_new w1 (Obj.cells #[Value.int IntKind.i64 0, Value.slice none 0 0, Value.slice none 0 0] 79)
  rw [sa] at nb
  exact ⟨⟨rfl, own_grow ho gb, fun k h x hk _ => by simp at hk, hk_new _ _ 0, nb, by simp [hkBlks, HkO.blks, Value.ownBlock], by omega, fun k hk => by simp [Value.ownBlock] at hk; omega⟩, ga.trans gb⟩
theorem refOf12 (A B : Option Addr) (n m c d : Nat) (xs ys : List ByteArray) (w : World) (hx : StrRow w A xs) (hy : StrRow w B ys) (hn : xs.length = n) (hm : ys.length = m) (hnc : n ≤ c) (h1 : n ≤ 1000) (h2 : m ≤ 1000) :
    Calls Try.prog 54 #[.slice A n c, .slice B m d] w fun e w' => ∃ A' c' hs, e = .returned (.slice A' (Dif.diffL ByteArray.empty xs ys).length c') ∧ HkRd w' A' hs (Dif.diffL ByteArray.empty xs ys) ∧ Below w.heap.size w w' := by
  have HD := hid (fun w1 (h : Grow w w1) => refTable12 B m d ys hm h2 xs A c w1 (hx.grow h) (hy.grow h) (by omega) (by omega))
  rw [hn] at HD
  have HX := hid hx
  have HY := hid hy
  have HN := hid hn
  have HM := hid hm
  clear hx hy hn hm hnc
  go_enter Try.func54, Try.ntmps54
  have HB := hid (grow_refl w)
  go_wp2_with fail
  refine (HD.out _ HB.out).mono ?_
  rintro _ w2 ⟨v5, r, rfl, ht, hb⟩
  obtain ⟨_, ⟨_, h0⟩ | ⟨o, c5, cur5, rfl, _⟩⟩ := ht.own
  · omega
  have HT := hid ht
  have HB2 := hid (Grow.trans HB.out hb)
  clear hb ht HD HB
  go_wp2_with fail
  have hst := rfStart w2 w.heap.size HB2.out.size
  generalize (w2.alloc (Obj.cells #[] 79)).alloc (Obj.cells #[Value.int IntKind.i64 0, Value.slice none 0 0, Value.slice none 0 0] 79) = w4 at *
  generalize w2.heap.size + 1 = gn at *
  generalize w2.heap.size = go at *
  obtain ⟨hs4, hb4⟩ := hst
  have HS4 := hid hs4
  have HB4 := hid (Grow.trans HB2.out hb4)
  have HT4 := hid (RTab.grow (B := w.heap.size) ⟨own_rebase HT.out.own (fun k hk => by first | exact (own_lt HT.out.own hk).1 | exact Nat.le_trans HB2.out.size (own_lt HT.out.own hk).1), HT.out.row⟩ hb4)
  clear hs4 hb4 HB2 HT
  obtain ⟨J, hJ⟩ : ∃ J : Nat → Act → World → Prop, J = fun z a' wr => ∃ (k : Nat) (ov : Value) (hv : List HkO) (h : HkO), a'.defers = [] ∧ a'.tmps.size = 147 ∧ a'.tmps.getD 0 undef = .slice A n c ∧ a'.tmps.getD 1 undef = .slice B m d ∧ a'.tmps.getD 5 undef = .slice (some ⟨o, 0, none⟩) (n + 1) c5 ∧ a'.tmps.getD 7 undef = .pointer (some ⟨gn, 0, none⟩) ∧ a'.tmps.getD 6 undef = ov ∧ a'.tmps.getD 8 undef = .int .i64 ((Dif.stD ByteArray.empty xs ys k).i : Int) ∧ a'.tmps.getD 9 undef = .int .i64 ((Dif.stD ByteArray.empty xs ys k).j : Int) ∧ z + ((Dif.stD ByteArray.empty xs ys k).i + (Dif.stD ByteArray.empty xs ys k).j) = n + m ∧ Hid (RfS wr w.heap.size gn ov hv h (Dif.stD ByteArray.empty xs ys k).fin (Dif.stD ByteArray.empty xs ys k).hk) ∧ Hid (RTab wr w.heap.size (.slice (some ⟨o, 0, none⟩) (n + 1) c5) r (n + 1) (m + 1) (Dif.kAt xs ys)) ∧ Hid (Grow w wr) := ⟨_, rfl⟩
  refine wp_loop_gh J (n + m) ?start ?round
  case start =>
    rw [hJ]
    exact ⟨0, _, _, _, rfl, rfl, rfl, rfl, rfl, rfl, rfl, rfl, rfl, rfl, HS4, HT4, HB4⟩
  case round =>
    clear HS4 HT4 HB4
    rintro gk ⟨T, D⟩ wr hj K hK
    have hj2 := hj
    rw [hJ] at hj2
    clear hj
    obtain ⟨k, ov, hv, h, hD, hT, e0, e1, e5, e7, e6, e8, e9, hz, HS, HTB, HB⟩ := hj2
    obtain ⟨s, hs⟩ : ∃ s, Dif.stD ByteArray.empty xs ys k = s := ⟨_, rfl⟩
    have HST := hid (show Dif.stD ByteArray.empty xs ys (k + 1) = Dif.stepD ByteArray.empty xs ys s by rw [← hs]; rfl)
    have HSK := hid hs
    obtain ⟨b1, b2, b3, b4, b5⟩ := stD_bounds xs ys k s hs
    have HNW := hid (stD_now xs ys k s hs)
    rw [hs] at e8 e9 hz HS
    clear hs
    obtain ⟨i, j, fin, now⟩ := s
    dsimp only at b1 b2 b3 b4 b5 e8 e9 hz HS
    obtain ⟨hk, hhk⟩ : ∃ hk, Dif.DSt.hk ⟨i, j, fin, now⟩ = hk := ⟨_, rfl⟩
    have HHK := hid hhk
    rw [hhk] at b4 b5 HS HNW
    replace HNW : Hid (0 < hk.old.length + hk.new.length ↔ now.isSome = true) := HNW
    clear hhk
    have HBD := hid (show fin.length ≤ 100000 ∧ hk.old.length ≤ 100000 ∧ hk.new.length ≤ 100000 by
      rw [HN.out] at b1
      rw [HM.out] at b2
      have : fin.length ≤ (Dif.DSt.out ⟨i, j, fin, now⟩).length := by simp [Dif.DSt.out]
      omega)
    rw [HN.out] at b1
    rw [HM.out] at b2
    clear b3 b4 b5
    have HZ := hid hz
    clear hz
    have i0 : (0 : Int) ≤ (i : Int) := by omega
    have j0 : (0 : Int) ≤ (j : Int) := by omega
    have HH1 := hid h1
    have HH2 := hid h2
    have hi9 : (i : Int) ≤ 1000 := by omega
    have hj9 : (j : Int) ≤ 1000 := by omega
    clear h1 h2
    by_cases hdn : i = n ∧ j = m
    · simp only at hD hT e0 e1 e5 e6 e7 e8 e9
      subst hD
      obtain ⟨U, hU, hUk⟩ := frame147 T hT
      rw [hUk] at e0 e1 e5 e6 e7 e8 e9
      rw [e0, e1, e5, e6, e7, e8, e9] at hU
      subst hU
      clear hT e0 e1 e5 e6 e7 e8 e9 hUk
      obtain ⟨rfl, rfl⟩ := hdn
      have HDN := hid (show Dif.doneD xs ys (Dif.stD ByteArray.empty xs ys k) = true by rw [HSK.out]; simp [Dif.doneD, HN.out, HM.out])
      have HRS := hid (show (Dif.DSt.out ⟨i, j, fin, now⟩) = Dif.diffL ByteArray.empty xs ys by rw [← Dif.diffL_of ByteArray.empty xs ys HDN.out, HSK.out])
      clear hK hJ HTB
      obtain ⟨A1, k1, ho1, _⟩ := own_sl HS.out.now.old
      obtain ⟨A2, k2, ho2, _⟩ := own_sl HS.out.now.new
      obtain ⟨hp9, hold, hnew⟩ := h
      dsimp only at ho1 ho2
      subst ho1
      subst ho2
      have x1 := blk_cell (i := 1) (v := .slice A1 hk.old.length k1) HS.out.cell rfl
      have x2 := blk_cell (i := 2) (v := .slice A2 hk.new.length k2) HS.out.cell rfl
      have l9 := HBD.out
      have ll : ((hk.old.length : Int) + (hk.new.length : Int)) = ((hk.old.length + hk.new.length : Nat) : Int) := by omega
      have wl : IntKind.i64.wrap ((hk.old.length : Int) + (hk.new.length : Int)) = (hk.old.length : Int) + (hk.new.length : Int) := by simp [IntKind.wrap, IntKind.signed, IntKind.bits]; omega
      have HNW2 := HNW
      clear ll l9
      cases now with
      | none =>
        have h0 : ¬ 0 < hk.old.length + hk.new.length := fun h => by have := HNW.out.1 h; cases this
        have he : hk.old.length = 0 ∧ hk.new.length = 0 := ⟨by omega, by omega⟩
        rw [he.1] at x1
        rw [he.2] at x2
        clear h0
        have HRS2 := hid (show fin = Dif.diffL ByteArray.empty xs ys by rw [← HRS.out]; simp [Dif.DSt.out])
        clear he wl HNW HNW2
        go_wp2_with fail
        obtain ⟨A', c', hs', rfl, hrd⟩ := hk_open HS.out.len HS.out.own HS.out.each (by have := HBD.out; omega)
        go_ret
        rw [← HRS2.out]
        exact ⟨A', c', hs', rfl, hrd, HB.out⟩
      | some hx =>
        have hp : 0 < hk.old.length + hk.new.length := HNW.out.2 rfl
        have hp2 : (0 : Int) < (hk.old.length : Int) + (hk.new.length : Int) := by omega
        have HRS2 := hid (show fin ++ [hk] = Dif.diffL ByteArray.empty xs ys by rw [← HRS.out, ← HHK.out]; simp [Dif.DSt.out, Dif.DSt.hk])
        have HHC := hid (show wr.heap[gn]? = some (.cells #[.int .i64 (hp9 : Int), .slice A1 hk.old.length k1, .slice A2 hk.new.length k2] 79 (0, 0)) from HS.out.cell)
        have hsz : w.heap.size ≤ wr.heap.size := HB.out.size
        have HSZ := hid hsz
        clear hp hsz
        go_wp2_with (first | (refine op_appOwn (n := fin.length) (m := 1) (v := ov) (B := w.heap.size) (news := [.int .i64 (hp9 : Int), .slice A1 hk.old.length k1, .slice A2 hk.new.length k2]) rfl rfl Try.underlying71 infoRfH rfl (by decide) rfl rfl rfl (slOne _ _ _) (fun h => by cases h) (one3 rfl rfl) (own_grow HS.out.own (grow_alloc _ _)) (Nat.le_trans HSZ.out (grow_alloc _ _).size) (by have := HBD.out; omega) (by have := HBD.out; omega) ?_) | (refine opG_loadB rfl rfl rfl HHC.out Try.underlying79 rfl rfl ?_) |  fail)
        intro v1 w1 ho1 hg1 hm1
        have hga := grow_alloc wr (Obj.cells #[.int .i64 (hp9 : Int), .slice A1 hk.old.length k1, .slice A2 hk.new.length k2] 79)
        obtain ⟨q1, q2, q3, q4⟩ := rfPush (HS.out.grow hga) ho1 hg1 hm1
        have HBZ := hid (show Grow w w1 from Below.trans (show Below w.heap.size w _ from Grow.trans HB.out hga) (below_own (own_grow HS.out.own hga) hg1 (Nat.le_trans HSZ.out hga.size)))
        have hlen : (fin ++ [hk]).length = fin.length + 1 := by simp
        obtain ⟨A', c', hs', rfl, hrd⟩ := hk_open (L := fin ++ [hk]) (by simp [HS.out.len]) (by rw [hlen, hkCells_snoc]; exact ho1) q1 (by have := HBD.out; simp; omega)
        have HRD := hid hrd
        rw [hlen]
        clear ho1 hg1 hm1 q1 q2 q3 q4 hga hrd
        go_wp2_with fail
        go_ret
        rw [← HRS2.out]
        exact ⟨A', c', hs', by rw [hlen]; rfl, HRD.out, HBZ.out⟩
    · have HND := hid hdn
      clear hdn
      obtain ⟨F, hF⟩ : ∃ F : Act → Prop, F = fun a' => a'.defers = [] ∧ a'.tmps.size = 147 ∧ a'.tmps.getD 0 undef = .slice A n c ∧ a'.tmps.getD 1 undef = .slice B m d ∧ a'.tmps.getD 5 undef = .slice (some ⟨o, 0, none⟩) (n + 1) c5 ∧ a'.tmps.getD 7 undef = .pointer (some ⟨gn, 0, none⟩) ∧ a'.tmps.getD 6 undef = ov ∧ a'.tmps.getD 8 undef = .int .i64 (i : Int) ∧ a'.tmps.getD 9 undef = .int .i64 (j : Int) := ⟨_, rfl⟩
      apply wp_seq_k
      intro K1 hK1
      refine wp_cutJ (fun a' w' => F a' ∧ w' = wr) ?a1 ?a2
      case a1 =>
        simp only at hD hT e0 e1 e5 e6 e7 e8 e9
        subst hD
        obtain ⟨U, hU, hUk⟩ := frame147 T hT
        rw [hUk] at e0 e1 e5 e6 e7 e8 e9
        rw [e0, e1, e5, e6, e7, e8, e9] at hU
        subst hU
        clear hT e0 e1 e5 e6 e7 e8 e9 hUk
        have HND2 := HND
        by_cases hin : i < n
        · have hlt : (i : Int) < (n : Int) := by omega
          go_wp2_with fail
          try (refine ⟨?_, trivial⟩; rw [hF]; exact ⟨rfl, rfl, rfl, rfl, rfl, rfl, rfl, rfl, rfl⟩)
        · obtain rfl : i = n := by omega
          have hlt : (j : Int) < (m : Int) := by have := HND.out; omega
          go_wp2_with fail
          try (refine ⟨?_, trivial⟩; rw [hF]; exact ⟨rfl, rfl, rfl, rfl, rfl, rfl, rfl, rfl, rfl⟩)
      case a2 =>
        clear hT e0 e1 e5 e7 e6 e8 e9 hD
        rintro ⟨T, D⟩ wr2 ⟨hf, rfl⟩
        rw [hF] at hf
        obtain ⟨hD, hT, e0, e1, e5, e7, e6, e8, e9⟩ := hf
        simp only at hD hT e0 e1 e5 e6 e7 e8 e9
        subst hD
        obtain ⟨U, hU, hUk⟩ := frame147 T hT
        rw [hUk] at e0 e1 e5 e6 e7 e8 e9
        rw [e0, e1, e5, e6, e7, e8, e9] at hU
        subst hU
        clear hT e0 e1 e5 e6 e7 e8 e9 hUk
        refine into_K (by assumption) ?_
        clear hK1
        obtain ⟨bo, hbo⟩ : ∃ bo, bo = decide (i < n ∧ j < m) := ⟨_, rfl⟩
        have HBO := hid hbo
        clear hbo
        apply wp_block
        apply wp_seq_k
        intro K2 hK2
        refine wp_cutJ (fun a' w' => (F a' ∧ a'.tmps.getD 10 undef = .bool bo) ∧ w' = wr2) ?b1 ?b2
        case b1 =>
          by_cases hin : i < n
          · have hlt : (i : Int) < (n : Int) := by omega
            by_cases hjm : j < m
            · have hlt2 : (j : Int) < (m : Int) := by omega
              obtain rfl : bo = true := by rw [HBO.out]; simp [hin, hjm]
              go_wp2_with fail
              exact ⟨⟨by rw [hF]; exact ⟨rfl, rfl, rfl, rfl, rfl, rfl, rfl, rfl, rfl⟩, rfl⟩, trivial⟩
            · obtain rfl : j = m := by omega
              obtain rfl : bo = false := by rw [HBO.out]; simp
              go_wp2_with fail
              all_goals (exact ⟨⟨by rw [hF]; exact ⟨rfl, rfl, rfl, rfl, rfl, rfl, rfl, rfl, rfl⟩, rfl⟩, trivial⟩)
          · obtain rfl : i = n := by omega
            obtain rfl : bo = false := by rw [HBO.out]; simp
            go_wp2_with fail
            all_goals (exact ⟨⟨by rw [hF]; exact ⟨rfl, rfl, rfl, rfl, rfl, rfl, rfl, rfl, rfl⟩, rfl⟩, trivial⟩)
        case b2 =>
          rintro ⟨T, D⟩ wr ⟨⟨hf, e10⟩, rfl⟩
          rw [hF] at hf
          obtain ⟨hD, hT, e0, e1, e5, e7, e6, e8, e9⟩ := hf
          simp only at e10
          simp only at hD hT e0 e1 e5 e6 e7 e8 e9 e10
          subst hD
          obtain ⟨U, hU, hUk⟩ := frame147 T hT
          rw [hUk] at e0 e1 e5 e6 e7 e8 e9 e10
          rw [e0, e1, e5, e6, e7, e8, e9, e10] at hU
          subst hU
          clear hT e0 e1 e5 e6 e7 e8 e9 e10 hUk
          refine into_K (by assumption) ?_
          clear hK2
          have HG := hid (grow_refl wr)
          go_wp2_with fail
          refine wp_cutJ (fun a' w' => ((F a' ∧ a'.tmps.getD 10 undef = .bool bo) ∧ a'.tmps.getD 67 undef = .bool (Dif.keepD ByteArray.empty xs ys i j)) ∧ Grow wr w') ?r7 ?rest
          case r7 =>
            clear HS HST HSK HZ hK
            by_cases hb : i < n ∧ j < m
            · obtain rfl : bo = true := by rw [HBO.out]; simp [hb]
              obtain ⟨hin, hjm⟩ := hb
              have hlt : (i : Int) < (n : Int) := by omega
              have hlt2 : (j : Int) < (m : Int) := by omega
              obtain ⟨ad, rfl, hc1⟩ := (HX.out.grow HB.out).at_ i (by rw [HN.out]; exact hin)
              obtain ⟨bd, rfl, hc2⟩ := (HY.out.grow HB.out).at_ j (by rw [HM.out]; exact hjm)
              have HKP0 := hid (show Dif.keepD ByteArray.empty xs ys i j = decide (xs.getD i ByteArray.empty = ys.getD j ByteArray.empty ∧ Dif.kAt xs ys i j = Dif.kAt xs ys (i + 1) (j + 1) + 1) by unfold Dif.keepD; rw [HN.out, HM.out]; simp [hin, hjm])
              have HXC := hid hc1
              have HYC := hid hc2
              clear hc1 hc2
              generalize xs.getD i ByteArray.empty = x at *
              generalize ys.getD j ByteArray.empty = y at *
              have hk2 : Dif.kAt xs ys (i + 1) (j + 1) ≤ 1000 := Nat.le_trans (kAt_le xs ys (i + 1) (j + 1)) (by rw [HN.out]; exact HH1.out)
              have wk : IntKind.i64.wrap ((Dif.kAt xs ys (i + 1) (j + 1) : Int) + 1) = (Dif.kAt xs ys (i + 1) (j + 1) : Int) + 1 := by simp [IntKind.wrap, IntKind.signed, IntKind.bits]; omega
              clear hk2
              have wa : IntKind.i64.wrap ((i : Int) + 1) = (i : Int) + 1 := by simp [IntKind.wrap, IntKind.signed, IntKind.bits]; omega
              have wb : IntKind.i64.wrap ((j : Int) + 1) = (j : Int) + 1 := by simp [IntKind.wrap, IntKind.signed, IntKind.bits]; omega
              have ta : ((i : Int) + 1).toNat = i + 1 := by omega
              have tb : ((j : Int) + 1).toNat = j + 1 := by omega
              have a2 : (i : Int) < (n : Int) + 1 := by omega
              have a3 : (i : Int) + 1 < (n : Int) + 1 := by omega
              have a4 : (0 : Int) ≤ (i : Int) + 1 := by omega
              have c2 : (j : Int) < (m : Int) + 1 := by omega
              have c3 : (j : Int) + 1 < (m : Int) + 1 := by omega
              have c4 : (0 : Int) ≤ (j : Int) + 1 := by omega
              by_cases hxy : x = y
              · subst hxy
                have heq : (x.toList == x.toList) = true := by simp
                have HKP := hid (show Dif.keepD ByteArray.empty xs ys i j = decide ((Dif.kAt xs ys i j : Int) = (Dif.kAt xs ys (i + 1) (j + 1) : Int) + 1) by rw [HKP0.out]; simp only [true_and]; exact decide_eq_decide.2 (by omega))
                clear HKP0
                refine wp_region_chain (fun W => RTab W w.heap.size (.slice (some ⟨o, 0, none⟩) (n + 1) c5) r (n + 1) (m + 1) (Dif.kAt xs ys) ∧ W.cell? (ad.add i) = some (.string x) ∧ W.cell? (bd.add j) = some (.string x)) [(0, true), (1, true), (2, true), (3, true), (4, true), (5, true), (6, true), (7, true), (8, true), (9, true), (10, true), (11, true), (12, true), (13, true), (14, true), (15, true), (16, true), (17, true), (18, true), (19, true), (20, true), (21, true), (22, true), (23, true), (24, true), (25, true), (26, true), (27, true), (28, true), (29, true), (30, true), (31, true)] rfl (by kernel_rfl) rfl (by kernel_rfl) ?_
                intro wc1 hb
                replace HTB := hid (HTB.out.grow hb)
                replace HG := hid (Grow.trans HG.out hb)
                replace HXC := hid (grow_cell HXC.out hb)
                replace HYC := hid (grow_cell HYC.out hb)
                clear hb
                refine ⟨⟨HTB.out, HXC.out, HYC.out⟩, ?_⟩
                (refine' ch_val ?po1 ?pw1 ?pr1 ?pq1 ?ph1; (case' po1 => exact rfl); (case' pw1 => rfl); (case' pq1 => (exact fun _ _ _ h => h)); (case' pr1 => (intro w' hw'; go_simp; with_reducible rfl)); (case' ph1 => (try simp only [List.getElem_toArray, List.getElem_cons_zero, List.getElem_cons_succ, Act.put, List.setIfInBounds_toArray, List.set_cons_zero, List.set_cons_succ]))); (refine' ch_val ?po2 ?pw2 ?pr2 ?pq2 ?ph2; (case' po2 => exact rfl); (case' pw2 => rfl); (case' pq2 => (exact fun _ _ _ h => h)); (case' pr2 => (intro w' hw'; go_simp; with_reducible rfl)); (case' ph2 => (try simp only [List.getElem_toArray, List.getElem_cons_zero, List.getElem_cons_succ, Act.put, List.setIfInBounds_toArray, List.set_cons_zero, List.set_cons_succ]))); (refine' ch_val ?po3 ?pw3 ?pr3 ?pq3 ?ph3; (case' po3 => exact rfl); (case' pw3 => rfl); (case' pq3 => (exact fun _ _ _ h => h)); (case' pr3 => (intro w' hw'; go_simp; with_reducible rfl)); (case' ph3 => (try simp only [List.getElem_toArray, List.getElem_cons_zero, List.getElem_cons_succ, Act.put, List.setIfInBounds_toArray, List.set_cons_zero, List.set_cons_succ]))); (refine' ch_val ?po4 ?pw4 ?pr4 ?pq4 ?ph4; (case' po4 => exact rfl); (case' pw4 => rfl); (case' pq4 => (exact fun _ _ _ h => h)); (case' pr4 => (intro w' hw'; go_simp; with_reducible rfl)); (case' ph4 => (try simp only [List.getElem_toArray, List.getElem_cons_zero, List.getElem_cons_succ, Act.put, List.setIfInBounds_toArray, List.set_cons_zero, List.set_cons_succ]))); (refine' ch_val ?po5 ?pw5 ?pr5 ?pq5 ?ph5; (case' po5 => exact rfl); (case' pw5 => rfl); (case' pq5 => (exact fun _ _ _ h => h)); (case' pr5 => (intro w' hw'; go_simp; with_reducible rfl)); (case' ph5 => (try simp only [List.getElem_toArray, List.getElem_cons_zero, List.getElem_cons_succ, Act.put, List.setIfInBounds_toArray, List.set_cons_zero, List.set_cons_succ])))
                (refine' ch_val (v := (.string x)) ?po6 ?pw6 ?pr6 ?pq6 ?ph6; (case' po6 => exact rfl); (case' pw6 => rfl); (case' pq6 => (exact fun _ _ _ h => h)); (case' pr6 => (intro w' hw'; exact run_opLoad1 rfl rfl hw'.2.1 Try.underlying9 rfl)); (case' ph6 => (try simp only [List.getElem_toArray, List.getElem_cons_zero, List.getElem_cons_succ, Act.put, List.setIfInBounds_toArray, List.set_cons_zero, List.set_cons_succ])))
                (refine' ch_val ?po7 ?pw7 ?pr7 ?pq7 ?ph7; (case' po7 => exact rfl); (case' pw7 => rfl); (case' pq7 => (exact fun _ _ _ h => h)); (case' pr7 => (intro w' hw'; go_simp; with_reducible rfl)); (case' ph7 => (try simp only [List.getElem_toArray, List.getElem_cons_zero, List.getElem_cons_succ, Act.put, List.setIfInBounds_toArray, List.set_cons_zero, List.set_cons_succ]))); (refine' ch_val ?po8 ?pw8 ?pr8 ?pq8 ?ph8; (case' po8 => exact rfl); (case' pw8 => rfl); (case' pq8 => (exact fun _ _ _ h => h)); (case' pr8 => (intro w' hw'; go_simp; with_reducible rfl)); (case' ph8 => (try simp only [List.getElem_toArray, List.getElem_cons_zero, List.getElem_cons_succ, Act.put, List.setIfInBounds_toArray, List.set_cons_zero, List.set_cons_succ]))); (refine' ch_val ?po9 ?pw9 ?pr9 ?pq9 ?ph9; (case' po9 => exact rfl); (case' pw9 => rfl); (case' pq9 => (exact fun _ _ _ h => h)); (case' pr9 => (intro w' hw'; go_simp; with_reducible rfl)); (case' ph9 => (try simp only [List.getElem_toArray, List.getElem_cons_zero, List.getElem_cons_succ, Act.put, List.setIfInBounds_toArray, List.set_cons_zero, List.set_cons_succ])))
                (refine' ch_val (v := (.string x)) ?po10 ?pw10 ?pr10 ?pq10 ?ph10; (case' po10 => exact rfl); (case' pw10 => rfl); (case' pq10 => (exact fun _ _ _ h => h)); (case' pr10 => (intro w' hw'; exact run_opLoad1 rfl rfl hw'.2.2 Try.underlying9 rfl)); (case' ph10 => (try simp only [List.getElem_toArray, List.getElem_cons_zero, List.getElem_cons_succ, Act.put, List.setIfInBounds_toArray, List.set_cons_zero, List.set_cons_succ])))
                (refine' ch_val ?po11 ?pw11 ?pr11 ?pq11 ?ph11; (case' po11 => exact rfl); (case' pw11 => rfl); (case' pq11 => (exact fun _ _ _ h => h)); (case' pr11 => (intro w' hw'; go_simp; with_reducible rfl)); (case' ph11 => (try simp only [List.getElem_toArray, List.getElem_cons_zero, List.getElem_cons_succ, Act.put, List.setIfInBounds_toArray, List.set_cons_zero, List.set_cons_succ]))); (refine' ch_val ?po12 ?pw12 ?pr12 ?pq12 ?ph12; (case' po12 => exact rfl); (case' pw12 => rfl); (case' pq12 => (exact fun _ _ _ h => h)); (case' pr12 => (intro w' hw'; go_simp; with_reducible rfl)); (case' ph12 => (try simp only [List.getElem_toArray, List.getElem_cons_zero, List.getElem_cons_succ, Act.put, List.setIfInBounds_toArray, List.set_cons_zero, List.set_cons_succ]))); (refine' ch_val ?po13 ?pw13 ?pr13 ?pq13 ?ph13; (case' po13 => exact rfl); (case' pw13 => rfl); (case' pq13 => (exact fun _ _ _ h => h)); (case' pr13 => (intro w' hw'; go_simp; with_reducible rfl)); (case' ph13 => (try simp only [List.getElem_toArray, List.getElem_cons_zero, List.getElem_cons_succ, Act.put, List.setIfInBounds_toArray, List.set_cons_zero, List.set_cons_succ]))); (refine' ch_val ?po14 ?pw14 ?pr14 ?pq14 ?ph14; (case' po14 => exact rfl); (case' pw14 => rfl); (case' pq14 => (exact fun _ _ _ h => h)); (case' pr14 => (intro w' hw'; go_simp; with_reducible rfl)); (case' ph14 => (try simp only [List.getElem_toArray, List.getElem_cons_zero, List.getElem_cons_succ, Act.put, List.setIfInBounds_toArray, List.set_cons_zero, List.set_cons_succ]))); (refine' ch_val ?po15 ?pw15 ?pr15 ?pq15 ?ph15; (case' po15 => exact rfl); (case' pw15 => rfl); (case' pq15 => (exact fun _ _ _ h => h)); (case' pr15 => (intro w' hw'; go_simp; with_reducible rfl)); (case' ph15 => (try simp only [List.getElem_toArray, List.getElem_cons_zero, List.getElem_cons_succ, Act.put, List.setIfInBounds_toArray, List.set_cons_zero, List.set_cons_succ]))); (refine' ch_val ?po16 ?pw16 ?pr16 ?pq16 ?ph16; (case' po16 => exact rfl); (case' pw16 => rfl); (case' pq16 => (exact fun _ _ _ h => h)); (case' pr16 => (intro w' hw'; go_simp; with_reducible rfl)); (case' ph16 => (try simp only [List.getElem_toArray, List.getElem_cons_zero, List.getElem_cons_succ, Act.put, List.setIfInBounds_toArray, List.set_cons_zero, List.set_cons_succ])))
                (refine' ch_val (v := (.slice (some ⟨r (i), 0, none⟩) (m + 1) (m + 1))) ?po17 ?pw17 ?pr17 ?pq17 ?ph17; (case' po17 => exact rfl); (case' pw17 => rfl); (case' pq17 => (exact fun _ _ _ h => h)); (case' pr17 => (intro w' hw'; exact run_opLoad1 rfl rfl (hw'.1.cellRow (show i < n + 1 by omega)) Try.underlying73 rfl)); (case' ph17 => (try simp only [List.getElem_toArray, List.getElem_cons_zero, List.getElem_cons_succ, Act.put, List.setIfInBounds_toArray, List.set_cons_zero, List.set_cons_succ])))
                (refine' ch_val ?po18 ?pw18 ?pr18 ?pq18 ?ph18; (case' po18 => exact rfl); (case' pw18 => rfl); (case' pq18 => (exact fun _ _ _ h => h)); (case' pr18 => (intro w' hw'; go_simp; with_reducible rfl)); (case' ph18 => (try simp only [List.getElem_toArray, List.getElem_cons_zero, List.getElem_cons_succ, Act.put, List.setIfInBounds_toArray, List.set_cons_zero, List.set_cons_succ]))); (refine' ch_val ?po19 ?pw19 ?pr19 ?pq19 ?ph19; (case' po19 => exact rfl); (case' pw19 => rfl); (case' pq19 => (exact fun _ _ _ h => h)); (case' pr19 => (intro w' hw'; go_simp; with_reducible rfl)); (case' ph19 => (try simp only [List.getElem_toArray, List.getElem_cons_zero, List.getElem_cons_succ, Act.put, List.setIfInBounds_toArray, List.set_cons_zero, List.set_cons_succ])))
                (refine' ch_val (v := (.int .i64 (Dif.kAt xs ys (i) (j) : Int))) ?po20 ?pw20 ?pr20 ?pq20 ?ph20; (case' po20 => exact rfl); (case' pw20 => rfl); (case' pq20 => (exact fun _ _ _ h => h)); (case' pr20 => (intro w' hw'; exact run_opLoad1 rfl rfl (hw'.1.cellVal (show i < n + 1 by omega) (show j < m + 1 by omega)) Try.underlying3 rfl)); (case' ph20 => (try simp only [List.getElem_toArray, List.getElem_cons_zero, List.getElem_cons_succ, Act.put, List.setIfInBounds_toArray, List.set_cons_zero, List.set_cons_succ])))
                (refine' ch_val ?po21 ?pw21 ?pr21 ?pq21 ?ph21; (case' po21 => exact rfl); (case' pw21 => rfl); (case' pq21 => (exact fun _ _ _ h => h)); (case' pr21 => (intro w' hw'; go_simp; with_reducible rfl)); (case' ph21 => (try simp only [List.getElem_toArray, List.getElem_cons_zero, List.getElem_cons_succ, Act.put, List.setIfInBounds_toArray, List.set_cons_zero, List.set_cons_succ]))); (refine' ch_val ?po22 ?pw22 ?pr22 ?pq22 ?ph22; (case' po22 => exact rfl); (case' pw22 => rfl); (case' pq22 => (exact fun _ _ _ h => h)); (case' pr22 => (intro w' hw'; go_simp; with_reducible rfl)); (case' ph22 => (try simp only [List.getElem_toArray, List.getElem_cons_zero, List.getElem_cons_succ, Act.put, List.setIfInBounds_toArray, List.set_cons_zero, List.set_cons_succ]))); (refine' ch_val ?po23 ?pw23 ?pr23 ?pq23 ?ph23; (case' po23 => exact rfl); (case' pw23 => rfl); (case' pq23 => (exact fun _ _ _ h => h)); (case' pr23 => (intro w' hw'; go_simp; with_reducible rfl)); (case' ph23 => (try simp only [List.getElem_toArray, List.getElem_cons_zero, List.getElem_cons_succ, Act.put, List.setIfInBounds_toArray, List.set_cons_zero, List.set_cons_succ]))); (refine' ch_val ?po24 ?pw24 ?pr24 ?pq24 ?ph24; (case' po24 => exact rfl); (case' pw24 => rfl); (case' pq24 => (exact fun _ _ _ h => h)); (case' pr24 => (intro w' hw'; go_simp; with_reducible rfl)); (case' ph24 => (try simp only [List.getElem_toArray, List.getElem_cons_zero, List.getElem_cons_succ, Act.put, List.setIfInBounds_toArray, List.set_cons_zero, List.set_cons_succ])))
                (refine' ch_val (v := (.slice (some ⟨r (i + 1), 0, none⟩) (m + 1) (m + 1))) ?po25 ?pw25 ?pr25 ?pq25 ?ph25; (case' po25 => exact rfl); (case' pw25 => rfl); (case' pq25 => (exact fun _ _ _ h => h)); (case' pr25 => (intro w' hw'; exact run_opLoad1 rfl rfl (hw'.1.cellRow (show i + 1 < n + 1 by omega)) Try.underlying73 rfl)); (case' ph25 => (try simp only [List.getElem_toArray, List.getElem_cons_zero, List.getElem_cons_succ, Act.put, List.setIfInBounds_toArray, List.set_cons_zero, List.set_cons_succ])))
                (refine' ch_val ?po26 ?pw26 ?pr26 ?pq26 ?ph26; (case' po26 => exact rfl); (case' pw26 => rfl); (case' pq26 => (exact fun _ _ _ h => h)); (case' pr26 => (intro w' hw'; go_simp; with_reducible rfl)); (case' ph26 => (try simp only [List.getElem_toArray, List.getElem_cons_zero, List.getElem_cons_succ, Act.put, List.setIfInBounds_toArray, List.set_cons_zero, List.set_cons_succ]))); (refine' ch_val ?po27 ?pw27 ?pr27 ?pq27 ?ph27; (case' po27 => exact rfl); (case' pw27 => rfl); (case' pq27 => (exact fun _ _ _ h => h)); (case' pr27 => (intro w' hw'; go_simp; with_reducible rfl)); (case' ph27 => (try simp only [List.getElem_toArray, List.getElem_cons_zero, List.getElem_cons_succ, Act.put, List.setIfInBounds_toArray, List.set_cons_zero, List.set_cons_succ]))); (refine' ch_val ?po28 ?pw28 ?pr28 ?pq28 ?ph28; (case' po28 => exact rfl); (case' pw28 => rfl); (case' pq28 => (exact fun _ _ _ h => h)); (case' pr28 => (intro w' hw'; go_simp; with_reducible rfl)); (case' ph28 => (try simp only [List.getElem_toArray, List.getElem_cons_zero, List.getElem_cons_succ, Act.put, List.setIfInBounds_toArray, List.set_cons_zero, List.set_cons_succ])))
                (refine' ch_val (v := (.int .i64 (Dif.kAt xs ys (i + 1) (j + 1) : Int))) ?po29 ?pw29 ?pr29 ?pq29 ?ph29; (case' po29 => exact rfl); (case' pw29 => rfl); (case' pq29 => (exact fun _ _ _ h => h)); (case' pr29 => (intro w' hw'; exact run_opLoad1 rfl rfl (hw'.1.cellVal (show i + 1 < n + 1 by omega) (show j + 1 < m + 1 by omega)) Try.underlying3 rfl)); (case' ph29 => (try simp only [List.getElem_toArray, List.getElem_cons_zero, List.getElem_cons_succ, Act.put, List.setIfInBounds_toArray, List.set_cons_zero, List.set_cons_succ])))
                (refine' ch_val ?po30 ?pw30 ?pr30 ?pq30 ?ph30; (case' po30 => exact rfl); (case' pw30 => rfl); (case' pq30 => (exact fun _ _ _ h => h)); (case' pr30 => (intro w' hw'; go_simp; with_reducible rfl)); (case' ph30 => (try simp only [List.getElem_toArray, List.getElem_cons_zero, List.getElem_cons_succ, Act.put, List.setIfInBounds_toArray, List.set_cons_zero, List.set_cons_succ]))); (refine' ch_val ?po31 ?pw31 ?pr31 ?pq31 ?ph31; (case' po31 => exact rfl); (case' pw31 => rfl); (case' pq31 => (exact fun _ _ _ h => h)); (case' pr31 => (intro w' hw'; go_simp; with_reducible rfl)); (case' ph31 => (try simp only [List.getElem_toArray, List.getElem_cons_zero, List.getElem_cons_succ, Act.put, List.setIfInBounds_toArray, List.set_cons_zero, List.set_cons_succ]))); (refine' ch_val ?po32 ?pw32 ?pr32 ?pq32 ?ph32; (case' po32 => exact rfl); (case' pw32 => rfl); (case' pq32 => (exact fun _ _ _ h => h)); (case' pr32 => (intro w' hw'; go_simp; with_reducible rfl)); (case' ph32 => (try simp only [List.getElem_toArray, List.getElem_cons_zero, List.getElem_cons_succ, Act.put, List.setIfInBounds_toArray, List.set_cons_zero, List.set_cons_succ])))
                refine ch_nil ?_
                refine ⟨⟨⟨by rw [hF]; exact ⟨rfl, rfl, rfl, rfl, rfl, rfl, rfl, rfl, rfl⟩, rfl⟩, ?_⟩, HG.out⟩
                first
                  | rfl
                  | (rw [HKP.out]; rfl)
                  | (rw [HKP.out]; exact congrArg Value.bool (decide_eq_decide.2 (by omega)))
              · have hne : (x.toList == y.toList) = false := toList_beq_ne hxy
                have HKP := hid (show Dif.keepD ByteArray.empty xs ys i j = false by rw [HKP0.out]; simp [hxy])
                clear HKP0 hxy
                refine wp_region_chain (fun W => RTab W w.heap.size (.slice (some ⟨o, 0, none⟩) (n + 1) c5) r (n + 1) (m + 1) (Dif.kAt xs ys) ∧ W.cell? (ad.add i) = some (.string x) ∧ W.cell? (bd.add j) = some (.string y)) [(0, true), (1, true), (2, true), (3, true), (4, true), (5, true), (6, true), (7, true), (8, true), (9, true), (10, true), (11, true), (12, true), (13, true), (14, true), (15, true), (16, true), (17, true), (18, true), (19, true), (20, true), (21, true), (22, true), (23, true), (24, true), (25, true), (26, true), (27, true), (28, true), (29, true), (30, true), (31, true)] rfl (by kernel_rfl) rfl (by kernel_rfl) ?_
                intro wc2 hb
                replace HTB := hid (HTB.out.grow hb)
                replace HG := hid (Grow.trans HG.out hb)
                replace HXC := hid (grow_cell HXC.out hb)
                replace HYC := hid (grow_cell HYC.out hb)
                clear hb
                refine ⟨⟨HTB.out, HXC.out, HYC.out⟩, ?_⟩
                (refine' ch_val ?po33 ?pw33 ?pr33 ?pq33 ?ph33; (case' po33 => exact rfl); (case' pw33 => rfl); (case' pq33 => (exact fun _ _ _ h => h)); (case' pr33 => (intro w' hw'; go_simp; with_reducible rfl)); (case' ph33 => (try simp only [List.getElem_toArray, List.getElem_cons_zero, List.getElem_cons_succ, Act.put, List.setIfInBounds_toArray, List.set_cons_zero, List.set_cons_succ]))); (refine' ch_val ?po34 ?pw34 ?pr34 ?pq34 ?ph34; (case' po34 => exact rfl); (case' pw34 => rfl); (case' pq34 => (exact fun _ _ _ h => h)); (case' pr34 => (intro w' hw'; go_simp; with_reducible rfl)); (case' ph34 => (try simp only [List.getElem_toArray, List.getElem_cons_zero, List.getElem_cons_succ, Act.put, List.setIfInBounds_toArray, List.set_cons_zero, List.set_cons_succ]))); (refine' ch_val ?po35 ?pw35 ?pr35 ?pq35 ?ph35; (case' po35 => exact rfl); (case' pw35 => rfl); (case' pq35 => (exact fun _ _ _ h => h)); (case' pr35 => (intro w' hw'; go_simp; with_reducible rfl)); (case' ph35 => (try simp only [List.getElem_toArray, List.getElem_cons_zero, List.getElem_cons_succ, Act.put, List.setIfInBounds_toArray, List.set_cons_zero, List.set_cons_succ]))); (refine' ch_val ?po36 ?pw36 ?pr36 ?pq36 ?ph36; (case' po36 => exact rfl); (case' pw36 => rfl); (case' pq36 => (exact fun _ _ _ h => h)); (case' pr36 => (intro w' hw'; go_simp; with_reducible rfl)); (case' ph36 => (try simp only [List.getElem_toArray, List.getElem_cons_zero, List.getElem_cons_succ, Act.put, List.setIfInBounds_toArray, List.set_cons_zero, List.set_cons_succ]))); (refine' ch_val ?po37 ?pw37 ?pr37 ?pq37 ?ph37; (case' po37 => exact rfl); (case' pw37 => rfl); (case' pq37 => (exact fun _ _ _ h => h)); (case' pr37 => (intro w' hw'; go_simp; with_reducible rfl)); (case' ph37 => (try simp only [List.getElem_toArray, List.getElem_cons_zero, List.getElem_cons_succ, Act.put, List.setIfInBounds_toArray, List.set_cons_zero, List.set_cons_succ])))
                (refine' ch_val (v := (.string x)) ?po38 ?pw38 ?pr38 ?pq38 ?ph38; (case' po38 => exact rfl); (case' pw38 => rfl); (case' pq38 => (exact fun _ _ _ h => h)); (case' pr38 => (intro w' hw'; exact run_opLoad1 rfl rfl hw'.2.1 Try.underlying9 rfl)); (case' ph38 => (try simp only [List.getElem_toArray, List.getElem_cons_zero, List.getElem_cons_succ, Act.put, List.setIfInBounds_toArray, List.set_cons_zero, List.set_cons_succ])))
                (refine' ch_val ?po39 ?pw39 ?pr39 ?pq39 ?ph39; (case' po39 => exact rfl); (case' pw39 => rfl); (case' pq39 => (exact fun _ _ _ h => h)); (case' pr39 => (intro w' hw'; go_simp; with_reducible rfl)); (case' ph39 => (try simp only [List.getElem_toArray, List.getElem_cons_zero, List.getElem_cons_succ, Act.put, List.setIfInBounds_toArray, List.set_cons_zero, List.set_cons_succ]))); (refine' ch_val ?po40 ?pw40 ?pr40 ?pq40 ?ph40; (case' po40 => exact rfl); (case' pw40 => rfl); (case' pq40 => (exact fun _ _ _ h => h)); (case' pr40 => (intro w' hw'; go_simp; with_reducible rfl)); (case' ph40 => (try simp only [List.getElem_toArray, List.getElem_cons_zero, List.getElem_cons_succ, Act.put, List.setIfInBounds_toArray, List.set_cons_zero, List.set_cons_succ]))); (refine' ch_val ?po41 ?pw41 ?pr41 ?pq41 ?ph41; (case' po41 => exact rfl); (case' pw41 => rfl); (case' pq41 => (exact fun _ _ _ h => h)); (case' pr41 => (intro w' hw'; go_simp; with_reducible rfl)); (case' ph41 => (try simp only [List.getElem_toArray, List.getElem_cons_zero, List.getElem_cons_succ, Act.put, List.setIfInBounds_toArray, List.set_cons_zero, List.set_cons_succ])))
                (refine' ch_val (v := (.string y)) ?po42 ?pw42 ?pr42 ?pq42 ?ph42; (case' po42 => exact rfl); (case' pw42 => rfl); (case' pq42 => (exact fun _ _ _ h => h)); (case' pr42 => (intro w' hw'; exact run_opLoad1 rfl rfl hw'.2.2 Try.underlying9 rfl)); (case' ph42 => (try simp only [List.getElem_toArray, List.getElem_cons_zero, List.getElem_cons_succ, Act.put, List.setIfInBounds_toArray, List.set_cons_zero, List.set_cons_succ])))
                (refine' ch_val ?po43 ?pw43 ?pr43 ?pq43 ?ph43; (case' po43 => exact rfl); (case' pw43 => rfl); (case' pq43 => (exact fun _ _ _ h => h)); (case' pr43 => (intro w' hw'; go_simp; with_reducible rfl)); (case' ph43 => (try simp only [List.getElem_toArray, List.getElem_cons_zero, List.getElem_cons_succ, Act.put, List.setIfInBounds_toArray, List.set_cons_zero, List.set_cons_succ]))); (refine' ch_val ?po44 ?pw44 ?pr44 ?pq44 ?ph44; (case' po44 => exact rfl); (case' pw44 => rfl); (case' pq44 => (exact fun _ _ _ h => h)); (case' pr44 => (intro w' hw'; go_simp; with_reducible rfl)); (case' ph44 => (try simp only [List.getElem_toArray, List.getElem_cons_zero, List.getElem_cons_succ, Act.put, List.setIfInBounds_toArray, List.set_cons_zero, List.set_cons_succ]))); (refine' ch_val ?po45 ?pw45 ?pr45 ?pq45 ?ph45; (case' po45 => exact rfl); (case' pw45 => rfl); (case' pq45 => (exact fun _ _ _ h => h)); (case' pr45 => (intro w' hw'; go_simp; with_reducible rfl)); (case' ph45 => (try simp only [List.getElem_toArray, List.getElem_cons_zero, List.getElem_cons_succ, Act.put, List.setIfInBounds_toArray, List.set_cons_zero, List.set_cons_succ])))
                (refine' ch_skip rfl rfl (fun _ _ _ h => h) ?_; try simp only [List.getElem_toArray, List.getElem_cons_zero, List.getElem_cons_succ, Act.put, List.setIfInBounds_toArray, List.set_cons_zero, List.set_cons_succ]); (refine' ch_skip rfl rfl (fun _ _ _ h => h) ?_; try simp only [List.getElem_toArray, List.getElem_cons_zero, List.getElem_cons_succ, Act.put, List.setIfInBounds_toArray, List.set_cons_zero, List.set_cons_succ]); (refine' ch_skip rfl rfl (fun _ _ _ h => h) ?_; try simp only [List.getElem_toArray, List.getElem_cons_zero, List.getElem_cons_succ, Act.put, List.setIfInBounds_toArray, List.set_cons_zero, List.set_cons_succ]); (refine' ch_skip rfl rfl (fun _ _ _ h => h) ?_; try simp only [List.getElem_toArray, List.getElem_cons_zero, List.getElem_cons_succ, Act.put, List.setIfInBounds_toArray, List.set_cons_zero, List.set_cons_succ]); (refine' ch_skip rfl rfl (fun _ _ _ h => h) ?_; try simp only [List.getElem_toArray, List.getElem_cons_zero, List.getElem_cons_succ, Act.put, List.setIfInBounds_toArray, List.set_cons_zero, List.set_cons_succ]); (refine' ch_skip rfl rfl (fun _ _ _ h => h) ?_; try simp only [List.getElem_toArray, List.getElem_cons_zero, List.getElem_cons_succ, Act.put, List.setIfInBounds_toArray, List.set_cons_zero, List.set_cons_succ]); (refine' ch_skip rfl rfl (fun _ _ _ h => h) ?_; try simp only [List.getElem_toArray, List.getElem_cons_zero, List.getElem_cons_succ, Act.put, List.setIfInBounds_toArray, List.set_cons_zero, List.set_cons_succ]); (refine' ch_skip rfl rfl (fun _ _ _ h => h) ?_; try simp only [List.getElem_toArray, List.getElem_cons_zero, List.getElem_cons_succ, Act.put, List.setIfInBounds_toArray, List.set_cons_zero, List.set_cons_succ]); (refine' ch_skip rfl rfl (fun _ _ _ h => h) ?_; try simp only [List.getElem_toArray, List.getElem_cons_zero, List.getElem_cons_succ, Act.put, List.setIfInBounds_toArray, List.set_cons_zero, List.set_cons_succ]); (refine' ch_skip rfl rfl (fun _ _ _ h => h) ?_; try simp only [List.getElem_toArray, List.getElem_cons_zero, List.getElem_cons_succ, Act.put, List.setIfInBounds_toArray, List.set_cons_zero, List.set_cons_succ]); (refine' ch_skip rfl rfl (fun _ _ _ h => h) ?_; try simp only [List.getElem_toArray, List.getElem_cons_zero, List.getElem_cons_succ, Act.put, List.setIfInBounds_toArray, List.set_cons_zero, List.set_cons_succ]); (refine' ch_skip rfl rfl (fun _ _ _ h => h) ?_; try simp only [List.getElem_toArray, List.getElem_cons_zero, List.getElem_cons_succ, Act.put, List.setIfInBounds_toArray, List.set_cons_zero, List.set_cons_succ]); (refine' ch_skip rfl rfl (fun _ _ _ h => h) ?_; try simp only [List.getElem_toArray, List.getElem_cons_zero, List.getElem_cons_succ, Act.put, List.setIfInBounds_toArray, List.set_cons_zero, List.set_cons_succ]); (refine' ch_skip rfl rfl (fun _ _ _ h => h) ?_; try simp only [List.getElem_toArray, List.getElem_cons_zero, List.getElem_cons_succ, Act.put, List.setIfInBounds_toArray, List.set_cons_zero, List.set_cons_succ]); (refine' ch_skip rfl rfl (fun _ _ _ h => h) ?_; try simp only [List.getElem_toArray, List.getElem_cons_zero, List.getElem_cons_succ, Act.put, List.setIfInBounds_toArray, List.set_cons_zero, List.set_cons_succ]); (refine' ch_skip rfl rfl (fun _ _ _ h => h) ?_; try simp only [List.getElem_toArray, List.getElem_cons_zero, List.getElem_cons_succ, Act.put, List.setIfInBounds_toArray, List.set_cons_zero, List.set_cons_succ]); (refine' ch_skip rfl rfl (fun _ _ _ h => h) ?_; try simp only [List.getElem_toArray, List.getElem_cons_zero, List.getElem_cons_succ, Act.put, List.setIfInBounds_toArray, List.set_cons_zero, List.set_cons_succ]); (refine' ch_skip rfl rfl (fun _ _ _ h => h) ?_; try simp only [List.getElem_toArray, List.getElem_cons_zero, List.getElem_cons_succ, Act.put, List.setIfInBounds_toArray, List.set_cons_zero, List.set_cons_succ])
                (refine' ch_val ?po46 ?pw46 ?pr46 ?pq46 ?ph46; (case' po46 => exact rfl); (case' pw46 => rfl); (case' pq46 => (exact fun _ _ _ h => h)); (case' pr46 => (intro w' hw'; go_simp; with_reducible rfl)); (case' ph46 => (try simp only [List.getElem_toArray, List.getElem_cons_zero, List.getElem_cons_succ, Act.put, List.setIfInBounds_toArray, List.set_cons_zero, List.set_cons_succ])))
                refine ch_nil ?_
                refine ⟨⟨⟨by rw [hF]; exact ⟨rfl, rfl, rfl, rfl, rfl, rfl, rfl, rfl, rfl⟩, rfl⟩, ?_⟩, HG.out⟩
                first
                  | rfl
                  | (rw [HKP.out]; rfl)
                  | (rw [HKP.out]; exact congrArg Value.bool (decide_eq_decide.2 (by omega)))
            · obtain rfl : bo = false := by rw [HBO.out]; simp; omega
              have HKP := hid (show Dif.keepD ByteArray.empty xs ys i j = false by unfold Dif.keepD; rw [HN.out, HM.out]; simp; omega)
              refine wp_region_chain (fun W => RTab W w.heap.size (.slice (some ⟨o, 0, none⟩) (n + 1) c5) r (n + 1) (m + 1) (Dif.kAt xs ys)) [(0, true), (1, true), (2, true), (3, true), (4, true), (5, true), (6, true), (7, true), (8, true), (9, true), (10, true), (11, true), (12, true), (13, true), (14, true), (15, true), (16, true), (17, true), (18, true), (19, true), (20, true), (21, true), (22, true), (23, true), (24, true), (25, true), (26, true), (27, true), (28, true), (29, true), (30, true), (31, true)] rfl (by kernel_rfl) rfl (by kernel_rfl) ?_
              intro wc3 hb
              replace HTB := hid (HTB.out.grow hb)
              replace HG := hid (Grow.trans HG.out hb)
              clear hb
              refine ⟨HTB.out, ?_⟩
              (refine' ch_val ?po47 ?pw47 ?pr47 ?pq47 ?ph47; (case' po47 => exact rfl); (case' pw47 => rfl); (case' pq47 => (exact fun _ _ _ h => h)); (case' pr47 => (intro w' hw'; go_simp; with_reducible rfl)); (case' ph47 => (try simp only [List.getElem_toArray, List.getElem_cons_zero, List.getElem_cons_succ, Act.put, List.setIfInBounds_toArray, List.set_cons_zero, List.set_cons_succ]))); (refine' ch_val ?po48 ?pw48 ?pr48 ?pq48 ?ph48; (case' po48 => exact rfl); (case' pw48 => rfl); (case' pq48 => (exact fun _ _ _ h => h)); (case' pr48 => (intro w' hw'; go_simp; with_reducible rfl)); (case' ph48 => (try simp only [List.getElem_toArray, List.getElem_cons_zero, List.getElem_cons_succ, Act.put, List.setIfInBounds_toArray, List.set_cons_zero, List.set_cons_succ])))
              (refine' ch_skip rfl rfl (fun _ _ _ h => h) ?_; try simp only [List.getElem_toArray, List.getElem_cons_zero, List.getElem_cons_succ, Act.put, List.setIfInBounds_toArray, List.set_cons_zero, List.set_cons_succ]); (refine' ch_skip rfl rfl (fun _ _ _ h => h) ?_; try simp only [List.getElem_toArray, List.getElem_cons_zero, List.getElem_cons_succ, Act.put, List.setIfInBounds_toArray, List.set_cons_zero, List.set_cons_succ]); (refine' ch_skip rfl rfl (fun _ _ _ h => h) ?_; try simp only [List.getElem_toArray, List.getElem_cons_zero, List.getElem_cons_succ, Act.put, List.setIfInBounds_toArray, List.set_cons_zero, List.set_cons_succ]); (refine' ch_skip rfl rfl (fun _ _ _ h => h) ?_; try simp only [List.getElem_toArray, List.getElem_cons_zero, List.getElem_cons_succ, Act.put, List.setIfInBounds_toArray, List.set_cons_zero, List.set_cons_succ]); (refine' ch_skip rfl rfl (fun _ _ _ h => h) ?_; try simp only [List.getElem_toArray, List.getElem_cons_zero, List.getElem_cons_succ, Act.put, List.setIfInBounds_toArray, List.set_cons_zero, List.set_cons_succ]); (refine' ch_skip rfl rfl (fun _ _ _ h => h) ?_; try simp only [List.getElem_toArray, List.getElem_cons_zero, List.getElem_cons_succ, Act.put, List.setIfInBounds_toArray, List.set_cons_zero, List.set_cons_succ]); (refine' ch_skip rfl rfl (fun _ _ _ h => h) ?_; try simp only [List.getElem_toArray, List.getElem_cons_zero, List.getElem_cons_succ, Act.put, List.setIfInBounds_toArray, List.set_cons_zero, List.set_cons_succ]); (refine' ch_skip rfl rfl (fun _ _ _ h => h) ?_; try simp only [List.getElem_toArray, List.getElem_cons_zero, List.getElem_cons_succ, Act.put, List.setIfInBounds_toArray, List.set_cons_zero, List.set_cons_succ]); (refine' ch_skip rfl rfl (fun _ _ _ h => h) ?_; try simp only [List.getElem_toArray, List.getElem_cons_zero, List.getElem_cons_succ, Act.put, List.setIfInBounds_toArray, List.set_cons_zero, List.set_cons_succ])
              (refine' ch_val ?po49 ?pw49 ?pr49 ?pq49 ?ph49; (case' po49 => exact rfl); (case' pw49 => rfl); (case' pq49 => (exact fun _ _ _ h => h)); (case' pr49 => (intro w' hw'; go_simp; with_reducible rfl)); (case' ph49 => (try simp only [List.getElem_toArray, List.getElem_cons_zero, List.getElem_cons_succ, Act.put, List.setIfInBounds_toArray, List.set_cons_zero, List.set_cons_succ]))); (refine' ch_val ?po50 ?pw50 ?pr50 ?pq50 ?ph50; (case' po50 => exact rfl); (case' pw50 => rfl); (case' pq50 => (exact fun _ _ _ h => h)); (case' pr50 => (intro w' hw'; go_simp; with_reducible rfl)); (case' ph50 => (try simp only [List.getElem_toArray, List.getElem_cons_zero, List.getElem_cons_succ, Act.put, List.setIfInBounds_toArray, List.set_cons_zero, List.set_cons_succ])))
              (refine' ch_skip rfl rfl (fun _ _ _ h => h) ?_; try simp only [List.getElem_toArray, List.getElem_cons_zero, List.getElem_cons_succ, Act.put, List.setIfInBounds_toArray, List.set_cons_zero, List.set_cons_succ]); (refine' ch_skip rfl rfl (fun _ _ _ h => h) ?_; try simp only [List.getElem_toArray, List.getElem_cons_zero, List.getElem_cons_succ, Act.put, List.setIfInBounds_toArray, List.set_cons_zero, List.set_cons_succ]); (refine' ch_skip rfl rfl (fun _ _ _ h => h) ?_; try simp only [List.getElem_toArray, List.getElem_cons_zero, List.getElem_cons_succ, Act.put, List.setIfInBounds_toArray, List.set_cons_zero, List.set_cons_succ]); (refine' ch_skip rfl rfl (fun _ _ _ h => h) ?_; try simp only [List.getElem_toArray, List.getElem_cons_zero, List.getElem_cons_succ, Act.put, List.setIfInBounds_toArray, List.set_cons_zero, List.set_cons_succ]); (refine' ch_skip rfl rfl (fun _ _ _ h => h) ?_; try simp only [List.getElem_toArray, List.getElem_cons_zero, List.getElem_cons_succ, Act.put, List.setIfInBounds_toArray, List.set_cons_zero, List.set_cons_succ]); (refine' ch_skip rfl rfl (fun _ _ _ h => h) ?_; try simp only [List.getElem_toArray, List.getElem_cons_zero, List.getElem_cons_succ, Act.put, List.setIfInBounds_toArray, List.set_cons_zero, List.set_cons_succ]); (refine' ch_skip rfl rfl (fun _ _ _ h => h) ?_; try simp only [List.getElem_toArray, List.getElem_cons_zero, List.getElem_cons_succ, Act.put, List.setIfInBounds_toArray, List.set_cons_zero, List.set_cons_succ]); (refine' ch_skip rfl rfl (fun _ _ _ h => h) ?_; try simp only [List.getElem_toArray, List.getElem_cons_zero, List.getElem_cons_succ, Act.put, List.setIfInBounds_toArray, List.set_cons_zero, List.set_cons_succ]); (refine' ch_skip rfl rfl (fun _ _ _ h => h) ?_; try simp only [List.getElem_toArray, List.getElem_cons_zero, List.getElem_cons_succ, Act.put, List.setIfInBounds_toArray, List.set_cons_zero, List.set_cons_succ]); (refine' ch_skip rfl rfl (fun _ _ _ h => h) ?_; try simp only [List.getElem_toArray, List.getElem_cons_zero, List.getElem_cons_succ, Act.put, List.setIfInBounds_toArray, List.set_cons_zero, List.set_cons_succ]); (refine' ch_skip rfl rfl (fun _ _ _ h => h) ?_; try simp only [List.getElem_toArray, List.getElem_cons_zero, List.getElem_cons_succ, Act.put, List.setIfInBounds_toArray, List.set_cons_zero, List.set_cons_succ]); (refine' ch_skip rfl rfl (fun _ _ _ h => h) ?_; try simp only [List.getElem_toArray, List.getElem_cons_zero, List.getElem_cons_succ, Act.put, List.setIfInBounds_toArray, List.set_cons_zero, List.set_cons_succ]); (refine' ch_skip rfl rfl (fun _ _ _ h => h) ?_; try simp only [List.getElem_toArray, List.getElem_cons_zero, List.getElem_cons_succ, Act.put, List.setIfInBounds_toArray, List.set_cons_zero, List.set_cons_succ]); (refine' ch_skip rfl rfl (fun _ _ _ h => h) ?_; try simp only [List.getElem_toArray, List.getElem_cons_zero, List.getElem_cons_succ, Act.put, List.setIfInBounds_toArray, List.set_cons_zero, List.set_cons_succ]); (refine' ch_skip rfl rfl (fun _ _ _ h => h) ?_; try simp only [List.getElem_toArray, List.getElem_cons_zero, List.getElem_cons_succ, Act.put, List.setIfInBounds_toArray, List.set_cons_zero, List.set_cons_succ]); (refine' ch_skip rfl rfl (fun _ _ _ h => h) ?_; try simp only [List.getElem_toArray, List.getElem_cons_zero, List.getElem_cons_succ, Act.put, List.setIfInBounds_toArray, List.set_cons_zero, List.set_cons_succ]); (refine' ch_skip rfl rfl (fun _ _ _ h => h) ?_; try simp only [List.getElem_toArray, List.getElem_cons_zero, List.getElem_cons_succ, Act.put, List.setIfInBounds_toArray, List.set_cons_zero, List.set_cons_succ]); (refine' ch_skip rfl rfl (fun _ _ _ h => h) ?_; try simp only [List.getElem_toArray, List.getElem_cons_zero, List.getElem_cons_succ, Act.put, List.setIfInBounds_toArray, List.set_cons_zero, List.set_cons_succ])
              (refine' ch_val ?po51 ?pw51 ?pr51 ?pq51 ?ph51; (case' po51 => exact rfl); (case' pw51 => rfl); (case' pq51 => (exact fun _ _ _ h => h)); (case' pr51 => (intro w' hw'; go_simp; with_reducible rfl)); (case' ph51 => (try simp only [List.getElem_toArray, List.getElem_cons_zero, List.getElem_cons_succ, Act.put, List.setIfInBounds_toArray, List.set_cons_zero, List.set_cons_succ])))
              refine ch_nil ?_
              refine ⟨⟨⟨by rw [hF]; exact ⟨rfl, rfl, rfl, rfl, rfl, rfl, rfl, rfl, rfl⟩, rfl⟩, ?_⟩, HG.out⟩
              first
                | rfl
                | (rw [HKP.out]; rfl)
                | (rw [HKP.out]; exact congrArg Value.bool (decide_eq_decide.2 (by omega)))
          case rest =>
            rintro ⟨T, D⟩ wq ⟨⟨⟨hf, e10⟩, e67⟩, hg⟩
            rw [hF] at hf
            obtain ⟨hD, hT, e0, e1, e5, e7, e6, e8, e9⟩ := hf
            simp only at e67 e10
            simp only at hD hT e0 e1 e5 e6 e7 e8 e9 e10 e67
            subst hD
            obtain ⟨U, hU, hUk⟩ := frame147 T hT
            rw [hUk] at e0 e1 e5 e6 e7 e8 e9 e10 e67
            rw [e0, e1, e5, e6, e7, e8, e9, e10, e67] at hU
            subst hU
            clear hT e0 e1 e5 e6 e7 e8 e9 e10 e67 hUk
            replace HS := hid (HS.out.grow hg)
            replace HTB := hid (HTB.out.grow hg)
            replace HB := hid (Grow.trans HB.out hg)
            clear hg HG
            refine into_K (by assumption) ?_
            have HSZ := hid (show w.heap.size ≤ wq.heap.size from HB.out.size)
            obtain ⟨A1, k1, ho1, _⟩ := own_sl HS.out.now.old
            obtain ⟨A2, k2, ho2, _⟩ := own_sl HS.out.now.new
            obtain ⟨hp9, hold, hnew⟩ := h
            dsimp only at ho1 ho2
            subst ho1
            subst ho2
            have x1 := blk_cell (i := 1) (v := .slice A1 hk.old.length k1) HS.out.cell rfl
            have x2 := blk_cell (i := 2) (v := .slice A2 hk.new.length k2) HS.out.cell rfl
            have HHC := hid (show wq.heap[gn]? = some (.cells #[.int .i64 (hp9 : Int), .slice A1 hk.old.length k1, .slice A2 hk.new.length k2] 79 (0, 0)) from HS.out.cell)
            have wa : IntKind.i64.wrap ((i : Int) + 1) = (i : Int) + 1 := by simp [IntKind.wrap, IntKind.signed, IntKind.bits]; omega
            have wb : IntKind.i64.wrap ((j : Int) + 1) = (j : Int) + 1 := by simp [IntKind.wrap, IntKind.signed, IntKind.bits]; omega
            by_cases hkp : Dif.keepD ByteArray.empty xs ys i j = true
            · rw [hkp]
              have HE := hid (show Dif.stD ByteArray.empty xs ys (k + 1) = ⟨i + 1, j + 1, Dif.DSt.out ⟨i, j, fin, now⟩, none⟩ by
                rw [HST.out]
                unfold Dif.stepD
                rw [if_neg (by simp only [Dif.doneD, decide_eq_true_eq, HN.out, HM.out]; have := HND.out; omega), if_pos hkp]
                rfl)
              have hlt : i < n ∧ j < m := by
                simp only [Dif.keepD, decide_eq_true_eq, HN.out, HM.out] at hkp
                exact ⟨hkp.1, hkp.2.1⟩
              have HLT := hid hlt
              have HNWH := hid (show (⟨i + 1, j + 1, Dif.DSt.out ⟨i, j, fin, now⟩, none⟩ : Dif.DSt ByteArray).hk = ⟨j + 1, [], []⟩ from rfl)
              have l9 := HBD.out
              have wl : IntKind.i64.wrap ((hk.old.length : Int) + (hk.new.length : Int)) = (hk.old.length : Int) + (hk.new.length : Int) := by simp [IntKind.wrap, IntKind.signed, IntKind.bits]; omega
              clear hkp hlt HST l9
              cases now with
              | none =>
                have h0 : ¬ 0 < hk.old.length + hk.new.length := fun h => by have := HNW.out.1 h; cases this
                have he : hk.old.length = 0 ∧ hk.new.length = 0 := ⟨by omega, by omega⟩
                have HOO := hid (show Dif.DSt.out (⟨i, j, fin, none⟩ : Dif.DSt ByteArray) = fin by simp [Dif.DSt.out])
                rw [he.1] at x1
                rw [he.2] at x2
                have HSP := hid (show (hkBlks hv).Nodup by have := HS.out.sep; rw [List.nodup_append] at this; exact this.1)
                clear h0 he wl HNW
                go_wp2_with (first | (refine store_block 79 _ _ gn 0 [.int .i64 ((j : Int) + 1), .slice none 0 0, .slice none 0 0] [.int .i64 (hp9 : Int), .slice A1 hk.old.length k1, .slice A2 hk.new.length k2] [.int .i64 ((j : Int) + 1), .slice none 0 0, .slice none 0 0] 79 rfl rfl rfl rfl rfl HHC.out (by rw [infoRfS]; rfl) (by simp) (one3 rfl rfl) rfl ?_) | fail)
                intro w6 hW hgr hbel
                have HS6 := hid (rfBegin (j := j + 1) HS.out.len HS.out.own HS.out.each HSP.out HS.out.low HS.out.ne HHC.out (by rw [hW]; rfl) hgr)
                have HT6 := hid (HTB.out.grown (T := 79) hgr (fun k hk => by cases hk; exact ⟨_, _, HHC.out⟩) (by decide))
                have HB6 := hid (show Grow w w6 from hbel _ _ HB.out HS.out.low)
                clear hW hgr hbel HS HTB HB HHC x1 x2
                go_wp2_with fail
                refine hK _ _ (gk - 2) (by have := HZ.out; have := HLT.out; omega) ?_
                rw [hJ]
                refine ⟨k + 1, ov, hv, ⟨j + 1, .slice none 0 0, .slice none 0 0⟩, rfl, rfl, rfl, rfl, rfl, rfl, rfl, ?_, ?_, ?_, ?_, HT6, HB6⟩
                · rw [HE.out]; exact congrArg (Value.int .i64) (by show (i : Int) + 1 = ((i + 1 : Nat) : Int); omega)
                · rw [HE.out]; exact congrArg (Value.int .i64) (by show (j : Int) + 1 = ((j + 1 : Nat) : Int); omega)
                · rw [HE.out]; have := HZ.out; have := HLT.out; show gk - 2 + (i + 1 + (j + 1)) = n + m; omega
                · rw [HE.out, HNWH.out, HOO.out]; exact HS6
              | some hx =>
                have hp : 0 < hk.old.length + hk.new.length := HNW.out.2 rfl
                have hp2 : (0 : Int) < (hk.old.length : Int) + (hk.new.length : Int) := by omega
                have HOO := hid (show Dif.DSt.out (⟨i, j, fin, some hx⟩ : Dif.DSt ByteArray) = fin ++ [hk] by rw [← HHK.out]; simp [Dif.DSt.out, Dif.DSt.hk])
                clear hp HNW
                go_wp2_with (first | (refine op_appOwn (n := fin.length) (m := 1) (v := ov) (B := w.heap.size) (news := [.int .i64 (hp9 : Int), .slice A1 hk.old.length k1, .slice A2 hk.new.length k2]) rfl rfl Try.underlying71 infoRfH rfl (by decide) rfl rfl rfl (slOne _ _ _) (fun h => by cases h) (one3 rfl rfl) (own_grow HS.out.own (grow_alloc _ _)) (Nat.le_trans HSZ.out (grow_alloc _ _).size) (by have := HBD.out; omega) (by have := HBD.out; omega) ?_) | (refine opG_loadB rfl rfl rfl HHC.out Try.underlying79 rfl rfl ?_) | (refine opG_loadB rfl rfl rfl HHC.out Try.underlying79 rfl rfl ?_) |  fail)
                intro v1 w1 ho1 hg1 hm1
                have hga := grow_alloc wq (Obj.cells #[.int .i64 (hp9 : Int), .slice A1 hk.old.length k1, .slice A2 hk.new.length k2] 79)
                obtain ⟨q1, q2, q3, q4⟩ := rfPush (HS.out.grow hga) ho1 hg1 hm1
                have hlen : (fin ++ [hk]).length = fin.length + 1 := by simp
                have HLN := hid (show (hv ++ [(⟨hp9, .slice A1 hk.old.length k1, .slice A2 hk.new.length k2⟩ : HkO)]).length = (fin ++ [hk]).length by simp [HS.out.len])
                have HO1 := hid (show w1.ownsRow w.heap.size 79 3 v1 (fin ++ [hk]).length (hkCells (hv ++ [⟨hp9, .slice A1 hk.old.length k1, .slice A2 hk.new.length k2⟩])) by rw [hlen, hkCells_snoc]; exact ho1)
                have HC1 := hid (show w1.heap[gn]? = some (.cells [.int .i64 (hp9 : Int), .slice A1 hk.old.length k1, .slice A2 hk.new.length k2].toArray 79 (0, 0)) from q2)
                have HB1 := hid (show Grow w w1 from Below.trans (show Below w.heap.size w _ from Grow.trans HB.out hga) (below_own (own_grow HS.out.own hga) hg1 (Nat.le_trans HSZ.out hga.size)))
                have HT1 := hid ((HTB.out.grow hga).grown (T := 79) hg1 (fun k hk => own_blk_ty (own_grow HS.out.own hga) hk) (by decide))
                have HQ1 := hid q1
                have HQ3 := hid q3
                have HQ4 := hid q4
                clear ho1 hg1 hm1 q1 q2 q3 q4 hga hlen wl
                obtain ⟨A3, k3, hv1, _⟩ := own_sl HO1.out
                clear hp2 x1 x2 HHC
                go_wp2_with (first | (refine store_block 79 _ _ gn 0 [.int .i64 ((j : Int) + 1), .slice none 0 0, .slice none 0 0] [.int .i64 (hp9 : Int), .slice A1 hk.old.length k1, .slice A2 hk.new.length k2] [.int .i64 ((j : Int) + 1), .slice none 0 0, .slice none 0 0] 79 rfl rfl rfl rfl rfl HC1.out (by rw [infoRfS]; rfl) (by simp) (one3 rfl rfl) rfl ?_) | fail)
                intro w6 hW hgr hbel
                have HS6 := hid (rfBegin (j := j + 1) HLN.out HO1.out HQ1.out HQ4.out HS.out.low HQ3.out HC1.out (by rw [hW]; rfl) hgr)
                have HT6 := hid (HT1.out.grown (T := 79) hgr (fun k hk => by cases hk; exact ⟨_, _, HC1.out⟩) (by decide))
                have HB6 := hid (show Grow w w6 from hbel _ _ HB1.out HS.out.low)
                clear hW hgr hbel HS HTB HB HT1 HB1 HO1 HC1
                go_wp2_with fail
                refine hK _ _ (gk - 2) (by have := HZ.out; have := HLT.out; omega) ?_
                rw [hJ]
                refine ⟨k + 1, v1, hv ++ [⟨hp9, .slice A1 hk.old.length k1, .slice A2 hk.new.length k2⟩], ⟨j + 1, .slice none 0 0, .slice none 0 0⟩, rfl, rfl, rfl, rfl, rfl, rfl, ?_, ?_, ?_, ?_, ?_, HT6, HB6⟩
                · rfl
                · rw [HE.out]; exact congrArg (Value.int .i64) (by show (i : Int) + 1 = ((i + 1 : Nat) : Int); omega)
                · rw [HE.out]; exact congrArg (Value.int .i64) (by show (j : Int) + 1 = ((j + 1 : Nat) : Int); omega)
                · rw [HE.out]; have := HZ.out; have := HLT.out; show gk - 2 + (i + 1 + (j + 1)) = n + m; omega
                · rw [HE.out, HNWH.out, HOO.out]; exact HS6
            · have HKF := hid hkp
              have hkf : Dif.keepD ByteArray.empty xs ys i j = false := by simpa using hkp
              rw [hkf]
              clear hkp hkf
              go_wp2_with fail
              have HG := hid (grow_refl wq)
              refine wp_cutJ (fun a' w' => (F a' ∧ a'.tmps.getD 111 undef = .bool (Dif.delD xs ys i j)) ∧ Grow wq w') ?r13 ?rest2
              case r13 =>
                clear HS HST HSK HZ hK HKF x1 x2 HHC
                by_cases hjm : j < m
                · have hlt2 : (j : Int) < (m : Int) := by omega
                  have hne : ((j : Int) == (m : Int)) = false := by simp; omega
                  by_cases hin : i < n
                  · obtain rfl : bo = true := by rw [HBO.out]; simp [hin, hjm]
                    have hlt : (i : Int) < (n : Int) := by omega
                    have HKP := hid (show Dif.delD xs ys i j = decide ((Dif.kAt xs ys i (j + 1) : Int) ≤ (Dif.kAt xs ys (i + 1) j : Int)) by unfold Dif.delD; rw [HN.out, HM.out]; exact decide_eq_decide.2 (by omega))
                    clear wa wb
                    have wa : IntKind.i64.wrap ((i : Int) + 1) = (i : Int) + 1 := by simp [IntKind.wrap, IntKind.signed, IntKind.bits]; omega
                    have wb : IntKind.i64.wrap ((j : Int) + 1) = (j : Int) + 1 := by simp [IntKind.wrap, IntKind.signed, IntKind.bits]; omega
                    have ta : ((i : Int) + 1).toNat = i + 1 := by omega
                    have tb : ((j : Int) + 1).toNat = j + 1 := by omega
                    have a2 : (i : Int) < (n : Int) + 1 := by omega
                    have a3 : (i : Int) + 1 < (n : Int) + 1 := by omega
                    have a4 : (0 : Int) ≤ (i : Int) + 1 := by omega
                    have c2 : (j : Int) < (m : Int) + 1 := by omega
                    have c3 : (j : Int) + 1 < (m : Int) + 1 := by omega
                    have c4 : (0 : Int) ≤ (j : Int) + 1 := by omega
                    refine wp_region_chain (fun W => RTab W w.heap.size (.slice (some ⟨o, 0, none⟩) (n + 1) c5) r (n + 1) (m + 1) (Dif.kAt xs ys)) [(0, true), (1, true), (2, true), (3, true), (4, true), (5, true), (6, true), (7, true), (8, true), (9, true), (10, true), (11, true), (12, true), (13, true), (14, true), (15, true), (16, true), (17, true), (18, true), (19, true), (20, true), (21, true), (22, true), (23, true), (24, true), (25, true)] rfl (by kernel_rfl) rfl (by kernel_rfl) ?_
                    intro wc4 hb
                    replace HTB := hid (HTB.out.grow hb)
                    replace HG := hid (Grow.trans HG.out hb)
                    clear hb
                    refine ⟨HTB.out, ?_⟩
                    (refine' ch_val ?po52 ?pw52 ?pr52 ?pq52 ?ph52; (case' po52 => exact rfl); (case' pw52 => rfl); (case' pq52 => (exact fun _ _ _ h => h)); (case' pr52 => (intro w' hw'; go_simp; with_reducible rfl)); (case' ph52 => (try simp only [List.getElem_toArray, List.getElem_cons_zero, List.getElem_cons_succ, Act.put, List.setIfInBounds_toArray, List.set_cons_zero, List.set_cons_succ]))); (refine' ch_val ?po53 ?pw53 ?pr53 ?pq53 ?ph53; (case' po53 => exact rfl); (case' pw53 => rfl); (case' pq53 => (exact fun _ _ _ h => h)); (case' pr53 => (intro w' hw'; go_simp; with_reducible rfl)); (case' ph53 => (try simp only [List.getElem_toArray, List.getElem_cons_zero, List.getElem_cons_succ, Act.put, List.setIfInBounds_toArray, List.set_cons_zero, List.set_cons_succ]))); (refine' ch_val ?po54 ?pw54 ?pr54 ?pq54 ?ph54; (case' po54 => exact rfl); (case' pw54 => rfl); (case' pq54 => (exact fun _ _ _ h => h)); (case' pr54 => (intro w' hw'; go_simp; with_reducible rfl)); (case' ph54 => (try simp only [List.getElem_toArray, List.getElem_cons_zero, List.getElem_cons_succ, Act.put, List.setIfInBounds_toArray, List.set_cons_zero, List.set_cons_succ]))); (refine' ch_val ?po55 ?pw55 ?pr55 ?pq55 ?ph55; (case' po55 => exact rfl); (case' pw55 => rfl); (case' pq55 => (exact fun _ _ _ h => h)); (case' pr55 => (intro w' hw'; go_simp; with_reducible rfl)); (case' ph55 => (try simp only [List.getElem_toArray, List.getElem_cons_zero, List.getElem_cons_succ, Act.put, List.setIfInBounds_toArray, List.set_cons_zero, List.set_cons_succ]))); (refine' ch_val ?po56 ?pw56 ?pr56 ?pq56 ?ph56; (case' po56 => exact rfl); (case' pw56 => rfl); (case' pq56 => (exact fun _ _ _ h => h)); (case' pr56 => (intro w' hw'; go_simp; with_reducible rfl)); (case' ph56 => (try simp only [List.getElem_toArray, List.getElem_cons_zero, List.getElem_cons_succ, Act.put, List.setIfInBounds_toArray, List.set_cons_zero, List.set_cons_succ]))); (refine' ch_val ?po57 ?pw57 ?pr57 ?pq57 ?ph57; (case' po57 => exact rfl); (case' pw57 => rfl); (case' pq57 => (exact fun _ _ _ h => h)); (case' pr57 => (intro w' hw'; go_simp; with_reducible rfl)); (case' ph57 => (try simp only [List.getElem_toArray, List.getElem_cons_zero, List.getElem_cons_succ, Act.put, List.setIfInBounds_toArray, List.set_cons_zero, List.set_cons_succ]))); (refine' ch_val ?po58 ?pw58 ?pr58 ?pq58 ?ph58; (case' po58 => exact rfl); (case' pw58 => rfl); (case' pq58 => (exact fun _ _ _ h => h)); (case' pr58 => (intro w' hw'; go_simp; with_reducible rfl)); (case' ph58 => (try simp only [List.getElem_toArray, List.getElem_cons_zero, List.getElem_cons_succ, Act.put, List.setIfInBounds_toArray, List.set_cons_zero, List.set_cons_succ]))); (refine' ch_val ?po59 ?pw59 ?pr59 ?pq59 ?ph59; (case' po59 => exact rfl); (case' pw59 => rfl); (case' pq59 => (exact fun _ _ _ h => h)); (case' pr59 => (intro w' hw'; go_simp; with_reducible rfl)); (case' ph59 => (try simp only [List.getElem_toArray, List.getElem_cons_zero, List.getElem_cons_succ, Act.put, List.setIfInBounds_toArray, List.set_cons_zero, List.set_cons_succ]))); (refine' ch_val ?po60 ?pw60 ?pr60 ?pq60 ?ph60; (case' po60 => exact rfl); (case' pw60 => rfl); (case' pq60 => (exact fun _ _ _ h => h)); (case' pr60 => (intro w' hw'; go_simp; with_reducible rfl)); (case' ph60 => (try simp only [List.getElem_toArray, List.getElem_cons_zero, List.getElem_cons_succ, Act.put, List.setIfInBounds_toArray, List.set_cons_zero, List.set_cons_succ]))); (refine' ch_val ?po61 ?pw61 ?pr61 ?pq61 ?ph61; (case' po61 => exact rfl); (case' pw61 => rfl); (case' pq61 => (exact fun _ _ _ h => h)); (case' pr61 => (intro w' hw'; go_simp; with_reducible rfl)); (case' ph61 => (try simp only [List.getElem_toArray, List.getElem_cons_zero, List.getElem_cons_succ, Act.put, List.setIfInBounds_toArray, List.set_cons_zero, List.set_cons_succ]))); (refine' ch_val ?po62 ?pw62 ?pr62 ?pq62 ?ph62; (case' po62 => exact rfl); (case' pw62 => rfl); (case' pq62 => (exact fun _ _ _ h => h)); (case' pr62 => (intro w' hw'; go_simp; with_reducible rfl)); (case' ph62 => (try simp only [List.getElem_toArray, List.getElem_cons_zero, List.getElem_cons_succ, Act.put, List.setIfInBounds_toArray, List.set_cons_zero, List.set_cons_succ])))
                    (refine' ch_val (v := (.slice (some ⟨r (i + 1), 0, none⟩) (m + 1) (m + 1))) ?po63 ?pw63 ?pr63 ?pq63 ?ph63; (case' po63 => exact rfl); (case' pw63 => rfl); (case' pq63 => (exact fun _ _ _ h => h)); (case' pr63 => (intro w' hw'; exact run_opLoad1 rfl rfl (hw'.cellRow (show i + 1 < n + 1 by omega)) Try.underlying73 rfl)); (case' ph63 => (try simp only [List.getElem_toArray, List.getElem_cons_zero, List.getElem_cons_succ, Act.put, List.setIfInBounds_toArray, List.set_cons_zero, List.set_cons_succ])))
                    (refine' ch_val ?po64 ?pw64 ?pr64 ?pq64 ?ph64; (case' po64 => exact rfl); (case' pw64 => rfl); (case' pq64 => (exact fun _ _ _ h => h)); (case' pr64 => (intro w' hw'; go_simp; with_reducible rfl)); (case' ph64 => (try simp only [List.getElem_toArray, List.getElem_cons_zero, List.getElem_cons_succ, Act.put, List.setIfInBounds_toArray, List.set_cons_zero, List.set_cons_succ]))); (refine' ch_val ?po65 ?pw65 ?pr65 ?pq65 ?ph65; (case' po65 => exact rfl); (case' pw65 => rfl); (case' pq65 => (exact fun _ _ _ h => h)); (case' pr65 => (intro w' hw'; go_simp; with_reducible rfl)); (case' ph65 => (try simp only [List.getElem_toArray, List.getElem_cons_zero, List.getElem_cons_succ, Act.put, List.setIfInBounds_toArray, List.set_cons_zero, List.set_cons_succ])))
                    (refine' ch_val (v := (.int .i64 (Dif.kAt xs ys (i + 1) (j) : Int))) ?po66 ?pw66 ?pr66 ?pq66 ?ph66; (case' po66 => exact rfl); (case' pw66 => rfl); (case' pq66 => (exact fun _ _ _ h => h)); (case' pr66 => (intro w' hw'; exact run_opLoad1 rfl rfl (hw'.cellVal (show i + 1 < n + 1 by omega) (show j < m + 1 by omega)) Try.underlying3 rfl)); (case' ph66 => (try simp only [List.getElem_toArray, List.getElem_cons_zero, List.getElem_cons_succ, Act.put, List.setIfInBounds_toArray, List.set_cons_zero, List.set_cons_succ])))
                    (refine' ch_val ?po67 ?pw67 ?pr67 ?pq67 ?ph67; (case' po67 => exact rfl); (case' pw67 => rfl); (case' pq67 => (exact fun _ _ _ h => h)); (case' pr67 => (intro w' hw'; go_simp; with_reducible rfl)); (case' ph67 => (try simp only [List.getElem_toArray, List.getElem_cons_zero, List.getElem_cons_succ, Act.put, List.setIfInBounds_toArray, List.set_cons_zero, List.set_cons_succ]))); (refine' ch_val ?po68 ?pw68 ?pr68 ?pq68 ?ph68; (case' po68 => exact rfl); (case' pw68 => rfl); (case' pq68 => (exact fun _ _ _ h => h)); (case' pr68 => (intro w' hw'; go_simp; with_reducible rfl)); (case' ph68 => (try simp only [List.getElem_toArray, List.getElem_cons_zero, List.getElem_cons_succ, Act.put, List.setIfInBounds_toArray, List.set_cons_zero, List.set_cons_succ]))); (refine' ch_val ?po69 ?pw69 ?pr69 ?pq69 ?ph69; (case' po69 => exact rfl); (case' pw69 => rfl); (case' pq69 => (exact fun _ _ _ h => h)); (case' pr69 => (intro w' hw'; go_simp; with_reducible rfl)); (case' ph69 => (try simp only [List.getElem_toArray, List.getElem_cons_zero, List.getElem_cons_succ, Act.put, List.setIfInBounds_toArray, List.set_cons_zero, List.set_cons_succ])))
                    (refine' ch_val (v := (.slice (some ⟨r (i), 0, none⟩) (m + 1) (m + 1))) ?po70 ?pw70 ?pr70 ?pq70 ?ph70; (case' po70 => exact rfl); (case' pw70 => rfl); (case' pq70 => (exact fun _ _ _ h => h)); (case' pr70 => (intro w' hw'; exact run_opLoad1 rfl rfl (hw'.cellRow (show i < n + 1 by omega)) Try.underlying73 rfl)); (case' ph70 => (try simp only [List.getElem_toArray, List.getElem_cons_zero, List.getElem_cons_succ, Act.put, List.setIfInBounds_toArray, List.set_cons_zero, List.set_cons_succ])))
                    (refine' ch_val ?po71 ?pw71 ?pr71 ?pq71 ?ph71; (case' po71 => exact rfl); (case' pw71 => rfl); (case' pq71 => (exact fun _ _ _ h => h)); (case' pr71 => (intro w' hw'; go_simp; with_reducible rfl)); (case' ph71 => (try simp only [List.getElem_toArray, List.getElem_cons_zero, List.getElem_cons_succ, Act.put, List.setIfInBounds_toArray, List.set_cons_zero, List.set_cons_succ]))); (refine' ch_val ?po72 ?pw72 ?pr72 ?pq72 ?ph72; (case' po72 => exact rfl); (case' pw72 => rfl); (case' pq72 => (exact fun _ _ _ h => h)); (case' pr72 => (intro w' hw'; go_simp; with_reducible rfl)); (case' ph72 => (try simp only [List.getElem_toArray, List.getElem_cons_zero, List.getElem_cons_succ, Act.put, List.setIfInBounds_toArray, List.set_cons_zero, List.set_cons_succ]))); (refine' ch_val ?po73 ?pw73 ?pr73 ?pq73 ?ph73; (case' po73 => exact rfl); (case' pw73 => rfl); (case' pq73 => (exact fun _ _ _ h => h)); (case' pr73 => (intro w' hw'; go_simp; with_reducible rfl)); (case' ph73 => (try simp only [List.getElem_toArray, List.getElem_cons_zero, List.getElem_cons_succ, Act.put, List.setIfInBounds_toArray, List.set_cons_zero, List.set_cons_succ])))
                    (refine' ch_val (v := (.int .i64 (Dif.kAt xs ys (i) (j + 1) : Int))) ?po74 ?pw74 ?pr74 ?pq74 ?ph74; (case' po74 => exact rfl); (case' pw74 => rfl); (case' pq74 => (exact fun _ _ _ h => h)); (case' pr74 => (intro w' hw'; exact run_opLoad1 rfl rfl (hw'.cellVal (show i < n + 1 by omega) (show j + 1 < m + 1 by omega)) Try.underlying3 rfl)); (case' ph74 => (try simp only [List.getElem_toArray, List.getElem_cons_zero, List.getElem_cons_succ, Act.put, List.setIfInBounds_toArray, List.set_cons_zero, List.set_cons_succ])))
                    (refine' ch_val ?po75 ?pw75 ?pr75 ?pq75 ?ph75; (case' po75 => exact rfl); (case' pw75 => rfl); (case' pq75 => (exact fun _ _ _ h => h)); (case' pr75 => (intro w' hw'; go_simp; with_reducible rfl)); (case' ph75 => (try simp only [List.getElem_toArray, List.getElem_cons_zero, List.getElem_cons_succ, Act.put, List.setIfInBounds_toArray, List.set_cons_zero, List.set_cons_succ]))); (refine' ch_val ?po76 ?pw76 ?pr76 ?pq76 ?ph76; (case' po76 => exact rfl); (case' pw76 => rfl); (case' pq76 => (exact fun _ _ _ h => h)); (case' pr76 => (intro w' hw'; go_simp; with_reducible rfl)); (case' ph76 => (try simp only [List.getElem_toArray, List.getElem_cons_zero, List.getElem_cons_succ, Act.put, List.setIfInBounds_toArray, List.set_cons_zero, List.set_cons_succ]))); (refine' ch_val ?po77 ?pw77 ?pr77 ?pq77 ?ph77; (case' po77 => exact rfl); (case' pw77 => rfl); (case' pq77 => (exact fun _ _ _ h => h)); (case' pr77 => (intro w' hw'; go_simp; with_reducible rfl)); (case' ph77 => (try simp only [List.getElem_toArray, List.getElem_cons_zero, List.getElem_cons_succ, Act.put, List.setIfInBounds_toArray, List.set_cons_zero, List.set_cons_succ])))
                    refine ch_nil ?_
                    refine ⟨⟨by rw [hF]; exact ⟨rfl, rfl, rfl, rfl, rfl, rfl, rfl, rfl, rfl⟩, ?_⟩, HG.out⟩
                    first
                      | rfl
                      | (rw [HKP.out]; rfl)
                      | (rw [HKP.out]; exact congrArg Value.bool (decide_eq_decide.2 (by omega)))
                  · obtain rfl : bo = false := by rw [HBO.out]; simp; omega
                    have HKP := hid (show Dif.delD xs ys i j = false by unfold Dif.delD; rw [HN.out]; simp; omega)
                    refine wp_region_chain (fun W => RTab W w.heap.size (.slice (some ⟨o, 0, none⟩) (n + 1) c5) r (n + 1) (m + 1) (Dif.kAt xs ys)) [(0, true), (1, true), (2, true), (3, true), (4, true), (5, true), (6, true), (7, true), (8, true), (9, true), (10, true), (11, true), (12, true), (13, true), (14, true), (15, true), (16, true), (17, true), (18, true), (19, true), (20, true), (21, true), (22, true), (23, true), (24, true), (25, true)] rfl (by kernel_rfl) rfl (by kernel_rfl) ?_
                    intro wc5 hb
                    replace HTB := hid (HTB.out.grow hb)
                    replace HG := hid (Grow.trans HG.out hb)
                    clear hb
                    refine ⟨HTB.out, ?_⟩
                    (refine' ch_val ?po78 ?pw78 ?pr78 ?pq78 ?ph78; (case' po78 => exact rfl); (case' pw78 => rfl); (case' pq78 => (exact fun _ _ _ h => h)); (case' pr78 => (intro w' hw'; go_simp; with_reducible rfl)); (case' ph78 => (try simp only [List.getElem_toArray, List.getElem_cons_zero, List.getElem_cons_succ, Act.put, List.setIfInBounds_toArray, List.set_cons_zero, List.set_cons_succ]))); (refine' ch_val ?po79 ?pw79 ?pr79 ?pq79 ?ph79; (case' po79 => exact rfl); (case' pw79 => rfl); (case' pq79 => (exact fun _ _ _ h => h)); (case' pr79 => (intro w' hw'; go_simp; with_reducible rfl)); (case' ph79 => (try simp only [List.getElem_toArray, List.getElem_cons_zero, List.getElem_cons_succ, Act.put, List.setIfInBounds_toArray, List.set_cons_zero, List.set_cons_succ]))); (refine' ch_val ?po80 ?pw80 ?pr80 ?pq80 ?ph80; (case' po80 => exact rfl); (case' pw80 => rfl); (case' pq80 => (exact fun _ _ _ h => h)); (case' pr80 => (intro w' hw'; go_simp; with_reducible rfl)); (case' ph80 => (try simp only [List.getElem_toArray, List.getElem_cons_zero, List.getElem_cons_succ, Act.put, List.setIfInBounds_toArray, List.set_cons_zero, List.set_cons_succ]))); (refine' ch_val ?po81 ?pw81 ?pr81 ?pq81 ?ph81; (case' po81 => exact rfl); (case' pw81 => rfl); (case' pq81 => (exact fun _ _ _ h => h)); (case' pr81 => (intro w' hw'; go_simp; with_reducible rfl)); (case' ph81 => (try simp only [List.getElem_toArray, List.getElem_cons_zero, List.getElem_cons_succ, Act.put, List.setIfInBounds_toArray, List.set_cons_zero, List.set_cons_succ]))); (refine' ch_val ?po82 ?pw82 ?pr82 ?pq82 ?ph82; (case' po82 => exact rfl); (case' pw82 => rfl); (case' pq82 => (exact fun _ _ _ h => h)); (case' pr82 => (intro w' hw'; go_simp; with_reducible rfl)); (case' ph82 => (try simp only [List.getElem_toArray, List.getElem_cons_zero, List.getElem_cons_succ, Act.put, List.setIfInBounds_toArray, List.set_cons_zero, List.set_cons_succ]))); (refine' ch_val ?po83 ?pw83 ?pr83 ?pq83 ?ph83; (case' po83 => exact rfl); (case' pw83 => rfl); (case' pq83 => (exact fun _ _ _ h => h)); (case' pr83 => (intro w' hw'; go_simp; with_reducible rfl)); (case' ph83 => (try simp only [List.getElem_toArray, List.getElem_cons_zero, List.getElem_cons_succ, Act.put, List.setIfInBounds_toArray, List.set_cons_zero, List.set_cons_succ]))); (refine' ch_val ?po84 ?pw84 ?pr84 ?pq84 ?ph84; (case' po84 => exact rfl); (case' pw84 => rfl); (case' pq84 => (exact fun _ _ _ h => h)); (case' pr84 => (intro w' hw'; go_simp; with_reducible rfl)); (case' ph84 => (try simp only [List.getElem_toArray, List.getElem_cons_zero, List.getElem_cons_succ, Act.put, List.setIfInBounds_toArray, List.set_cons_zero, List.set_cons_succ])))
                    (refine' ch_skip rfl rfl (fun _ _ _ h => h) ?_; try simp only [List.getElem_toArray, List.getElem_cons_zero, List.getElem_cons_succ, Act.put, List.setIfInBounds_toArray, List.set_cons_zero, List.set_cons_succ]); (refine' ch_skip rfl rfl (fun _ _ _ h => h) ?_; try simp only [List.getElem_toArray, List.getElem_cons_zero, List.getElem_cons_succ, Act.put, List.setIfInBounds_toArray, List.set_cons_zero, List.set_cons_succ]); (refine' ch_skip rfl rfl (fun _ _ _ h => h) ?_; try simp only [List.getElem_toArray, List.getElem_cons_zero, List.getElem_cons_succ, Act.put, List.setIfInBounds_toArray, List.set_cons_zero, List.set_cons_succ]); (refine' ch_skip rfl rfl (fun _ _ _ h => h) ?_; try simp only [List.getElem_toArray, List.getElem_cons_zero, List.getElem_cons_succ, Act.put, List.setIfInBounds_toArray, List.set_cons_zero, List.set_cons_succ]); (refine' ch_skip rfl rfl (fun _ _ _ h => h) ?_; try simp only [List.getElem_toArray, List.getElem_cons_zero, List.getElem_cons_succ, Act.put, List.setIfInBounds_toArray, List.set_cons_zero, List.set_cons_succ]); (refine' ch_skip rfl rfl (fun _ _ _ h => h) ?_; try simp only [List.getElem_toArray, List.getElem_cons_zero, List.getElem_cons_succ, Act.put, List.setIfInBounds_toArray, List.set_cons_zero, List.set_cons_succ]); (refine' ch_skip rfl rfl (fun _ _ _ h => h) ?_; try simp only [List.getElem_toArray, List.getElem_cons_zero, List.getElem_cons_succ, Act.put, List.setIfInBounds_toArray, List.set_cons_zero, List.set_cons_succ]); (refine' ch_skip rfl rfl (fun _ _ _ h => h) ?_; try simp only [List.getElem_toArray, List.getElem_cons_zero, List.getElem_cons_succ, Act.put, List.setIfInBounds_toArray, List.set_cons_zero, List.set_cons_succ]); (refine' ch_skip rfl rfl (fun _ _ _ h => h) ?_; try simp only [List.getElem_toArray, List.getElem_cons_zero, List.getElem_cons_succ, Act.put, List.setIfInBounds_toArray, List.set_cons_zero, List.set_cons_succ]); (refine' ch_skip rfl rfl (fun _ _ _ h => h) ?_; try simp only [List.getElem_toArray, List.getElem_cons_zero, List.getElem_cons_succ, Act.put, List.setIfInBounds_toArray, List.set_cons_zero, List.set_cons_succ]); (refine' ch_skip rfl rfl (fun _ _ _ h => h) ?_; try simp only [List.getElem_toArray, List.getElem_cons_zero, List.getElem_cons_succ, Act.put, List.setIfInBounds_toArray, List.set_cons_zero, List.set_cons_succ]); (refine' ch_skip rfl rfl (fun _ _ _ h => h) ?_; try simp only [List.getElem_toArray, List.getElem_cons_zero, List.getElem_cons_succ, Act.put, List.setIfInBounds_toArray, List.set_cons_zero, List.set_cons_succ]); (refine' ch_skip rfl rfl (fun _ _ _ h => h) ?_; try simp only [List.getElem_toArray, List.getElem_cons_zero, List.getElem_cons_succ, Act.put, List.setIfInBounds_toArray, List.set_cons_zero, List.set_cons_succ]); (refine' ch_skip rfl rfl (fun _ _ _ h => h) ?_; try simp only [List.getElem_toArray, List.getElem_cons_zero, List.getElem_cons_succ, Act.put, List.setIfInBounds_toArray, List.set_cons_zero, List.set_cons_succ]); (refine' ch_skip rfl rfl (fun _ _ _ h => h) ?_; try simp only [List.getElem_toArray, List.getElem_cons_zero, List.getElem_cons_succ, Act.put, List.setIfInBounds_toArray, List.set_cons_zero, List.set_cons_succ]); (refine' ch_skip rfl rfl (fun _ _ _ h => h) ?_; try simp only [List.getElem_toArray, List.getElem_cons_zero, List.getElem_cons_succ, Act.put, List.setIfInBounds_toArray, List.set_cons_zero, List.set_cons_succ]); (refine' ch_skip rfl rfl (fun _ _ _ h => h) ?_; try simp only [List.getElem_toArray, List.getElem_cons_zero, List.getElem_cons_succ, Act.put, List.setIfInBounds_toArray, List.set_cons_zero, List.set_cons_succ])
                    (refine' ch_val ?po85 ?pw85 ?pr85 ?pq85 ?ph85; (case' po85 => exact rfl); (case' pw85 => rfl); (case' pq85 => (exact fun _ _ _ h => h)); (case' pr85 => (intro w' hw'; go_simp; with_reducible rfl)); (case' ph85 => (try simp only [List.getElem_toArray, List.getElem_cons_zero, List.getElem_cons_succ, Act.put, List.setIfInBounds_toArray, List.set_cons_zero, List.set_cons_succ]))); (refine' ch_val ?po86 ?pw86 ?pr86 ?pq86 ?ph86; (case' po86 => exact rfl); (case' pw86 => rfl); (case' pq86 => (exact fun _ _ _ h => h)); (case' pr86 => (intro w' hw'; go_simp; with_reducible rfl)); (case' ph86 => (try simp only [List.getElem_toArray, List.getElem_cons_zero, List.getElem_cons_succ, Act.put, List.setIfInBounds_toArray, List.set_cons_zero, List.set_cons_succ])))
                    refine ch_nil ?_
                    refine ⟨⟨by rw [hF]; exact ⟨rfl, rfl, rfl, rfl, rfl, rfl, rfl, rfl, rfl⟩, ?_⟩, HG.out⟩
                    first
                      | rfl
                      | (rw [HKP.out]; rfl)
                      | (rw [HKP.out]; exact congrArg Value.bool (decide_eq_decide.2 (by omega)))
                · obtain rfl : j = m := by omega
                  have HKP := hid (show Dif.delD xs ys i j = true by unfold Dif.delD; rw [HN.out, HM.out]; have := HND.out; simp; omega)
                  refine wp_region_chain (fun W => RTab W w.heap.size (.slice (some ⟨o, 0, none⟩) (n + 1) c5) r (n + 1) (j + 1) (Dif.kAt xs ys)) [(0, true), (1, true), (2, true), (3, true), (4, true), (5, true), (6, true), (7, true), (8, true), (9, true), (10, true), (11, true), (12, true), (13, true), (14, true), (15, true), (16, true), (17, true), (18, true), (19, true), (20, true), (21, true), (22, true), (23, true), (24, true), (25, true)] rfl (by kernel_rfl) rfl (by kernel_rfl) ?_
                  intro wc6 hb
                  replace HTB := hid (HTB.out.grow hb)
                  replace HG := hid (Grow.trans HG.out hb)
                  clear hb
                  refine ⟨HTB.out, ?_⟩
                  (refine' ch_val ?po87 ?pw87 ?pr87 ?pq87 ?ph87; (case' po87 => exact rfl); (case' pw87 => rfl); (case' pq87 => (exact fun _ _ _ h => h)); (case' pr87 => (intro w' hw'; go_simp; with_reducible rfl)); (case' ph87 => (try simp only [List.getElem_toArray, List.getElem_cons_zero, List.getElem_cons_succ, Act.put, List.setIfInBounds_toArray, List.set_cons_zero, List.set_cons_succ]))); (refine' ch_val ?po88 ?pw88 ?pr88 ?pq88 ?ph88; (case' po88 => exact rfl); (case' pw88 => rfl); (case' pq88 => (exact fun _ _ _ h => h)); (case' pr88 => (intro w' hw'; go_simp; with_reducible rfl)); (case' ph88 => (try simp only [List.getElem_toArray, List.getElem_cons_zero, List.getElem_cons_succ, Act.put, List.setIfInBounds_toArray, List.set_cons_zero, List.set_cons_succ]))); (refine' ch_val ?po89 ?pw89 ?pr89 ?pq89 ?ph89; (case' po89 => exact rfl); (case' pw89 => rfl); (case' pq89 => (exact fun _ _ _ h => h)); (case' pr89 => (intro w' hw'; go_simp; with_reducible rfl)); (case' ph89 => (try simp only [List.getElem_toArray, List.getElem_cons_zero, List.getElem_cons_succ, Act.put, List.setIfInBounds_toArray, List.set_cons_zero, List.set_cons_succ]))); (refine' ch_val ?po90 ?pw90 ?pr90 ?pq90 ?ph90; (case' po90 => exact rfl); (case' pw90 => rfl); (case' pq90 => (exact fun _ _ _ h => h)); (case' pr90 => (intro w' hw'; go_simp; with_reducible rfl)); (case' ph90 => (try simp only [List.getElem_toArray, List.getElem_cons_zero, List.getElem_cons_succ, Act.put, List.setIfInBounds_toArray, List.set_cons_zero, List.set_cons_succ]))); (refine' ch_val ?po91 ?pw91 ?pr91 ?pq91 ?ph91; (case' po91 => exact rfl); (case' pw91 => rfl); (case' pq91 => (exact fun _ _ _ h => h)); (case' pr91 => (intro w' hw'; go_simp; with_reducible rfl)); (case' ph91 => (try simp only [List.getElem_toArray, List.getElem_cons_zero, List.getElem_cons_succ, Act.put, List.setIfInBounds_toArray, List.set_cons_zero, List.set_cons_succ])))
                  (refine' ch_skip rfl rfl (fun _ _ _ h => h) ?_; try simp only [List.getElem_toArray, List.getElem_cons_zero, List.getElem_cons_succ, Act.put, List.setIfInBounds_toArray, List.set_cons_zero, List.set_cons_succ]); (refine' ch_skip rfl rfl (fun _ _ _ h => h) ?_; try simp only [List.getElem_toArray, List.getElem_cons_zero, List.getElem_cons_succ, Act.put, List.setIfInBounds_toArray, List.set_cons_zero, List.set_cons_succ]); (refine' ch_skip rfl rfl (fun _ _ _ h => h) ?_; try simp only [List.getElem_toArray, List.getElem_cons_zero, List.getElem_cons_succ, Act.put, List.setIfInBounds_toArray, List.set_cons_zero, List.set_cons_succ]); (refine' ch_skip rfl rfl (fun _ _ _ h => h) ?_; try simp only [List.getElem_toArray, List.getElem_cons_zero, List.getElem_cons_succ, Act.put, List.setIfInBounds_toArray, List.set_cons_zero, List.set_cons_succ]); (refine' ch_skip rfl rfl (fun _ _ _ h => h) ?_; try simp only [List.getElem_toArray, List.getElem_cons_zero, List.getElem_cons_succ, Act.put, List.setIfInBounds_toArray, List.set_cons_zero, List.set_cons_succ]); (refine' ch_skip rfl rfl (fun _ _ _ h => h) ?_; try simp only [List.getElem_toArray, List.getElem_cons_zero, List.getElem_cons_succ, Act.put, List.setIfInBounds_toArray, List.set_cons_zero, List.set_cons_succ]); (refine' ch_skip rfl rfl (fun _ _ _ h => h) ?_; try simp only [List.getElem_toArray, List.getElem_cons_zero, List.getElem_cons_succ, Act.put, List.setIfInBounds_toArray, List.set_cons_zero, List.set_cons_succ]); (refine' ch_skip rfl rfl (fun _ _ _ h => h) ?_; try simp only [List.getElem_toArray, List.getElem_cons_zero, List.getElem_cons_succ, Act.put, List.setIfInBounds_toArray, List.set_cons_zero, List.set_cons_succ]); (refine' ch_skip rfl rfl (fun _ _ _ h => h) ?_; try simp only [List.getElem_toArray, List.getElem_cons_zero, List.getElem_cons_succ, Act.put, List.setIfInBounds_toArray, List.set_cons_zero, List.set_cons_succ]); (refine' ch_skip rfl rfl (fun _ _ _ h => h) ?_; try simp only [List.getElem_toArray, List.getElem_cons_zero, List.getElem_cons_succ, Act.put, List.setIfInBounds_toArray, List.set_cons_zero, List.set_cons_succ]); (refine' ch_skip rfl rfl (fun _ _ _ h => h) ?_; try simp only [List.getElem_toArray, List.getElem_cons_zero, List.getElem_cons_succ, Act.put, List.setIfInBounds_toArray, List.set_cons_zero, List.set_cons_succ]); (refine' ch_skip rfl rfl (fun _ _ _ h => h) ?_; try simp only [List.getElem_toArray, List.getElem_cons_zero, List.getElem_cons_succ, Act.put, List.setIfInBounds_toArray, List.set_cons_zero, List.set_cons_succ]); (refine' ch_skip rfl rfl (fun _ _ _ h => h) ?_; try simp only [List.getElem_toArray, List.getElem_cons_zero, List.getElem_cons_succ, Act.put, List.setIfInBounds_toArray, List.set_cons_zero, List.set_cons_succ]); (refine' ch_skip rfl rfl (fun _ _ _ h => h) ?_; try simp only [List.getElem_toArray, List.getElem_cons_zero, List.getElem_cons_succ, Act.put, List.setIfInBounds_toArray, List.set_cons_zero, List.set_cons_succ]); (refine' ch_skip rfl rfl (fun _ _ _ h => h) ?_; try simp only [List.getElem_toArray, List.getElem_cons_zero, List.getElem_cons_succ, Act.put, List.setIfInBounds_toArray, List.set_cons_zero, List.set_cons_succ]); (refine' ch_skip rfl rfl (fun _ _ _ h => h) ?_; try simp only [List.getElem_toArray, List.getElem_cons_zero, List.getElem_cons_succ, Act.put, List.setIfInBounds_toArray, List.set_cons_zero, List.set_cons_succ]); (refine' ch_skip rfl rfl (fun _ _ _ h => h) ?_; try simp only [List.getElem_toArray, List.getElem_cons_zero, List.getElem_cons_succ, Act.put, List.setIfInBounds_toArray, List.set_cons_zero, List.set_cons_succ]); (refine' ch_skip rfl rfl (fun _ _ _ h => h) ?_; try simp only [List.getElem_toArray, List.getElem_cons_zero, List.getElem_cons_succ, Act.put, List.setIfInBounds_toArray, List.set_cons_zero, List.set_cons_succ]); (refine' ch_skip rfl rfl (fun _ _ _ h => h) ?_; try simp only [List.getElem_toArray, List.getElem_cons_zero, List.getElem_cons_succ, Act.put, List.setIfInBounds_toArray, List.set_cons_zero, List.set_cons_succ]); (refine' ch_skip rfl rfl (fun _ _ _ h => h) ?_; try simp only [List.getElem_toArray, List.getElem_cons_zero, List.getElem_cons_succ, Act.put, List.setIfInBounds_toArray, List.set_cons_zero, List.set_cons_succ])
                  (refine' ch_val ?po92 ?pw92 ?pr92 ?pq92 ?ph92; (case' po92 => exact rfl); (case' pw92 => rfl); (case' pq92 => (exact fun _ _ _ h => h)); (case' pr92 => (intro w' hw'; go_simp; with_reducible rfl)); (case' ph92 => (try simp only [List.getElem_toArray, List.getElem_cons_zero, List.getElem_cons_succ, Act.put, List.setIfInBounds_toArray, List.set_cons_zero, List.set_cons_succ])))
                  refine ch_nil ?_
                  refine ⟨⟨by rw [hF]; exact ⟨rfl, rfl, rfl, rfl, rfl, rfl, rfl, rfl, rfl⟩, ?_⟩, HG.out⟩
                  first
                    | rfl
                    | (rw [HKP.out]; rfl)
                    | (rw [HKP.out]; exact congrArg Value.bool (decide_eq_decide.2 (by omega)))
              case rest2 =>
                rintro ⟨T, D⟩ wp ⟨⟨hf, e111⟩, hg⟩
                rw [hF] at hf
                obtain ⟨hD, hT, e0, e1, e5, e7, e6, e8, e9⟩ := hf
                simp only at e111
                simp only at hD hT e0 e1 e5 e6 e7 e8 e9 e111
                subst hD
                obtain ⟨U, hU, hUk⟩ := frame147 T hT
                rw [hUk] at e0 e1 e5 e6 e7 e8 e9 e111
                rw [e0, e1, e5, e6, e7, e8, e9, e111] at hU
                subst hU
                clear hT e0 e1 e5 e6 e7 e8 e9 e111 hUk
                replace HS := hid (HS.out.grow hg)
                replace HTB := hid (HTB.out.grow hg)
                replace HB := hid (Grow.trans HB.out hg)
                replace HSZ := hid (show w.heap.size ≤ wp.heap.size from HB.out.size)
                replace HHC := hid (grow_block HHC.out hg)
                clear hg HG
                refine into_K (by assumption) ?_
                by_cases hdl : Dif.delD xs ys i j = true
                · rw [hdl]
                  have HE := hid (show Dif.stD ByteArray.empty xs ys (k + 1) = ⟨i + 1, j, fin, some ⟨(Dif.DSt.hk ⟨i, j, fin, now⟩).pos, (Dif.DSt.hk ⟨i, j, fin, now⟩).old ++ [xs.getD i ByteArray.empty], (Dif.DSt.hk ⟨i, j, fin, now⟩).new⟩⟩ by
                    rw [HST.out]
                    unfold Dif.stepD
                    rw [if_neg (by simp only [Dif.doneD, decide_eq_true_eq, HN.out, HM.out]; have := HND.out; omega), if_neg HKF.out, if_pos hdl]
                    rfl)
                  rw [HHK.out] at HE
                  have hin : i < n := by
                    simp only [Dif.delD, decide_eq_true_eq, HN.out] at hdl
                    exact hdl.1
                  have hlt : (i : Int) < (n : Int) := by omega
                  clear hdl HST HKF x1 x2
                  obtain ⟨ad, rfl, hc0⟩ := HX.out.at_ i (by rw [HN.out]; exact hin)
                  have HX0 := hid hc0
                  clear hc0
                  have HXC := hid (grow_cell HX0.out HB.out)
                  generalize xs.getD i ByteArray.empty = x at *
                  go_wp2_with fail
                  refine wp_region_floatG (fun W => W.heap[gn]? = some (.cells #[.int .i64 (hp9 : Int), .slice A1 hk.old.length k1, .slice A2 hk.new.length k2] 79 (0, 0)) ∧ W.cell? (ad.add i) = some (.string x)) [0,1,2,3,4,5] [6,7] [8,9] rfl (by kernel_rfl) rfl (by kernel_rfl) (by kernel_rfl) ?_
                  intro wf7 hb
                  replace HS := hid (HS.out.grow hb)
                  replace HTB := hid (HTB.out.grow hb)
                  replace HB := hid (Grow.trans HB.out hb)
                  replace HSZ := hid (Nat.le_trans HSZ.out (hb).size)
                  replace HHC := hid (grow_block HHC.out hb)
                  replace HXC := hid (grow_cell HXC.out hb)
                  clear hb
                  refine ⟨⟨HHC.out, HXC.out⟩, ?_⟩
                  (refine' pickT_val ?po93 ?pw93 ?pr93 ?pq93 ?ph93; (case' po93 => exact rfl); (case' pw93 => rfl); (case' pq93 => (exact fun _ _ _ h => h)); (case' pr93 => (intro w' hw'; go_simp; with_reducible rfl)); (case' ph93 => (try simp only [List.getElem_toArray, List.getElem_cons_zero, List.getElem_cons_succ, Act.put, List.setIfInBounds_toArray, List.set_cons_zero, List.set_cons_succ])))
                  (refine' pickT_val (v := (.slice A1 hk.old.length k1)) ?po94 ?pw94 ?pr94 ?pq94 ?ph94; (case' po94 => exact rfl); (case' pw94 => rfl); (case' pq94 => (exact fun _ _ _ h => h)); (case' pr94 => (intro w' hw'; exact run_opLoadC (i := 1) rfl rfl hw'.1 rfl Try.underlying22 rfl)); (case' ph94 => (try simp only [List.getElem_toArray, List.getElem_cons_zero, List.getElem_cons_succ, Act.put, List.setIfInBounds_toArray, List.set_cons_zero, List.set_cons_succ])))
                  (refine' pickT_val ?po95 ?pw95 ?pr95 ?pq95 ?ph95; (case' po95 => exact rfl); (case' pw95 => rfl); (case' pq95 => (exact fun _ _ _ h => h)); (case' pr95 => (intro w' hw'; go_simp; with_reducible rfl)); (case' ph95 => (try simp only [List.getElem_toArray, List.getElem_cons_zero, List.getElem_cons_succ, Act.put, List.setIfInBounds_toArray, List.set_cons_zero, List.set_cons_succ]))); (refine' pickT_val ?po96 ?pw96 ?pr96 ?pq96 ?ph96; (case' po96 => exact rfl); (case' pw96 => rfl); (case' pq96 => (exact fun _ _ _ h => h)); (case' pr96 => (intro w' hw'; go_simp; with_reducible rfl)); (case' ph96 => (try simp only [List.getElem_toArray, List.getElem_cons_zero, List.getElem_cons_succ, Act.put, List.setIfInBounds_toArray, List.set_cons_zero, List.set_cons_succ]))); (refine' pickT_val ?po97 ?pw97 ?pr97 ?pq97 ?ph97; (case' po97 => exact rfl); (case' pw97 => rfl); (case' pq97 => (exact fun _ _ _ h => h)); (case' pr97 => (intro w' hw'; go_simp; with_reducible rfl)); (case' ph97 => (try simp only [List.getElem_toArray, List.getElem_cons_zero, List.getElem_cons_succ, Act.put, List.setIfInBounds_toArray, List.set_cons_zero, List.set_cons_succ])))
                  (refine' pickT_val (v := (.string x)) ?po98 ?pw98 ?pr98 ?pq98 ?ph98; (case' po98 => exact rfl); (case' pw98 => rfl); (case' pq98 => (exact fun _ _ _ h => h)); (case' pr98 => (intro w' hw'; exact run_opLoad1 rfl rfl hw'.2 Try.underlying9 rfl)); (case' ph98 => (try simp only [List.getElem_toArray, List.getElem_cons_zero, List.getElem_cons_succ, Act.put, List.setIfInBounds_toArray, List.set_cons_zero, List.set_cons_succ])))
                  refine pickT_nil ?_
                  refine seqT_does rfl rfl (does_one (cs := [.string x]) rfl rfl rfl rfl Try.underlying22 infoStrZ rfl (by simp) (by simp)) ?_
                  rintro _ w8 ⟨g8', rfl, hb8, hc8⟩
                  replace HS := hid (HS.out.grow hb8)
                  replace HTB := hid (HTB.out.grow hb8)
                  replace HB := hid (Grow.trans HB.out hb8)
                  replace HSZ := hid (Nat.le_trans HSZ.out (hb8).size)
                  replace HHC := hid (grow_block HHC.out hb8)
                  replace HXC := hid (grow_cell HXC.out hb8)
                  clear hb8
                  refine ⟨⟨HHC.out, HXC.out⟩, ?_⟩
                  refine seqT_does rfl rfl (does_appOwn (v := .slice A1 hk.old.length k1) (news := [.string x]) (n := hk.old.length) (B := w.heap.size) rfl Try.underlying22 infoStrZ rfl (by decide) rfl rfl rfl hc8 (by intro u hu; cases hu with | head => rfl | tail _ h => cases h) HS.out.now.old HSZ.out (by have := HBD.out; omega) (by have := HBD.out; omega)) ?_
                  rintro o' w9 ⟨ho9, hg9, hm9⟩
                  have HOB := hid (fun k (hk' : Value.ownBlock (.slice A1 hk.old.length k1) = some k) => own_blk_ty HS.out.now.old hk')
                  have HG9 := hid (blk_other' hg9 HHC.out (fun e => by obtain ⟨cs', fr', h'⟩ := HOB.out gn e; exact blk_ne h' HHC.out (by decide) rfl))
                  have HW9 := hid (show Grow w w9 from Below.trans (show Below w.heap.size w _ from HB.out) (below_own HS.out.now.old hg9 HSZ.out))
                  have HT9 := hid (HTB.out.grown (T := 9) hg9 (fun k hk' => HOB.out k hk') (by decide))
                  have HX9 := hid (grow_cell HX0.out HW9.out)
                  refine ⟨⟨HG9.out, HX9.out⟩, ?_⟩
                  refine seqT_nil ?_
                  show wpList _ _ _ (_ :: _ :: []) _ _
                  go_wp2_with (first | (refine op_store1 (g := gn) (i := 1) (v := o') rfl rfl rfl rfl rfl HG9.out (own_cells ho9) (own_oneCell ho9) infoStrsS (by simp) ?_) | fail)
                  intro w6 hW hgr hbel
                  have HS6 := hid (rfOld HS.out ho9 hg9 hm9 HG9.out (by rw [hW]; rfl) hgr)
                  have HT6 := hid (HT9.out.grown (T := 79) hgr (fun k hk' => by cases hk'; exact ⟨_, _, HG9.out⟩) (by decide))
                  have HB6 := hid (show Grow w w6 from hbel _ _ HW9.out HS.out.low)
                  clear hW hgr hbel ho9 hg9 hm9 HG9 HX9 HW9 HT9 HOB HS HTB HB HSZ HHC HXC
                  go_wp2_with fail
                  refine hK _ _ (gk - 1) (by have := HZ.out; omega) ?_
                  rw [hJ]
                  refine ⟨k + 1, ov, hv, ⟨hp9, o', .slice A2 hk.new.length k2⟩, rfl, rfl, rfl, rfl, rfl, rfl, ?_, ?_, ?_, ?_, ?_, HT6, HB6⟩
                  · rfl
                  · rw [HE.out]; exact congrArg (Value.int .i64) (by show (i : Int) + 1 = ((i + 1 : Nat) : Int); omega)
                  · rw [HE.out]; rfl
                  · rw [HE.out]; have := HZ.out; show gk - 1 + (i + 1 + j) = n + m; omega
                  · rw [HE.out]; exact HS6
                · have hdf : Dif.delD xs ys i j = false := by simpa using hdl
                  rw [hdf]
                  clear hdf
                  have HE := hid (show Dif.stD ByteArray.empty xs ys (k + 1) = ⟨i, j + 1, fin, some ⟨(Dif.DSt.hk ⟨i, j, fin, now⟩).pos, (Dif.DSt.hk ⟨i, j, fin, now⟩).old, (Dif.DSt.hk ⟨i, j, fin, now⟩).new ++ [ys.getD j ByteArray.empty]⟩⟩ by
                    rw [HST.out]
                    unfold Dif.stepD
                    rw [if_neg (by simp only [Dif.doneD, decide_eq_true_eq, HN.out, HM.out]; have := HND.out; omega), if_neg HKF.out, if_neg hdl]
                    rfl)
                  rw [HHK.out] at HE
                  have hin : j < m := by
                    simp only [Dif.delD, decide_eq_true_eq, HN.out, HM.out] at hdl
                    have := HND.out
                    omega
                  have hlt : (j : Int) < (m : Int) := by omega
                  clear hdl HST HKF x1 x2
                  obtain ⟨ad, rfl, hc0⟩ := HY.out.at_ j (by rw [HM.out]; exact hin)
                  have HX0 := hid hc0
                  clear hc0
                  have HXC := hid (grow_cell HX0.out HB.out)
                  generalize ys.getD j ByteArray.empty = x at *
                  go_wp2_with fail
                  refine wp_region_floatG (fun W => W.heap[gn]? = some (.cells #[.int .i64 (hp9 : Int), .slice A1 hk.old.length k1, .slice A2 hk.new.length k2] 79 (0, 0)) ∧ W.cell? (ad.add j) = some (.string x)) [0,1,2,3,4,5] [6,7] [8,9] rfl (by kernel_rfl) rfl (by kernel_rfl) (by kernel_rfl) ?_
                  intro wf8 hb
                  replace HS := hid (HS.out.grow hb)
                  replace HTB := hid (HTB.out.grow hb)
                  replace HB := hid (Grow.trans HB.out hb)
                  replace HSZ := hid (Nat.le_trans HSZ.out (hb).size)
                  replace HHC := hid (grow_block HHC.out hb)
                  replace HXC := hid (grow_cell HXC.out hb)
                  clear hb
                  refine ⟨⟨HHC.out, HXC.out⟩, ?_⟩
                  (refine' pickT_val ?po99 ?pw99 ?pr99 ?pq99 ?ph99; (case' po99 => exact rfl); (case' pw99 => rfl); (case' pq99 => (exact fun _ _ _ h => h)); (case' pr99 => (intro w' hw'; go_simp; with_reducible rfl)); (case' ph99 => (try simp only [List.getElem_toArray, List.getElem_cons_zero, List.getElem_cons_succ, Act.put, List.setIfInBounds_toArray, List.set_cons_zero, List.set_cons_succ])))
                  (refine' pickT_val (v := (.slice A2 hk.new.length k2)) ?po100 ?pw100 ?pr100 ?pq100 ?ph100; (case' po100 => exact rfl); (case' pw100 => rfl); (case' pq100 => (exact fun _ _ _ h => h)); (case' pr100 => (intro w' hw'; exact run_opLoadC (i := 2) rfl rfl hw'.1 rfl Try.underlying22 rfl)); (case' ph100 => (try simp only [List.getElem_toArray, List.getElem_cons_zero, List.getElem_cons_succ, Act.put, List.setIfInBounds_toArray, List.set_cons_zero, List.set_cons_succ])))
                  (refine' pickT_val ?po101 ?pw101 ?pr101 ?pq101 ?ph101; (case' po101 => exact rfl); (case' pw101 => rfl); (case' pq101 => (exact fun _ _ _ h => h)); (case' pr101 => (intro w' hw'; go_simp; with_reducible rfl)); (case' ph101 => (try simp only [List.getElem_toArray, List.getElem_cons_zero, List.getElem_cons_succ, Act.put, List.setIfInBounds_toArray, List.set_cons_zero, List.set_cons_succ]))); (refine' pickT_val ?po102 ?pw102 ?pr102 ?pq102 ?ph102; (case' po102 => exact rfl); (case' pw102 => rfl); (case' pq102 => (exact fun _ _ _ h => h)); (case' pr102 => (intro w' hw'; go_simp; with_reducible rfl)); (case' ph102 => (try simp only [List.getElem_toArray, List.getElem_cons_zero, List.getElem_cons_succ, Act.put, List.setIfInBounds_toArray, List.set_cons_zero, List.set_cons_succ]))); (refine' pickT_val ?po103 ?pw103 ?pr103 ?pq103 ?ph103; (case' po103 => exact rfl); (case' pw103 => rfl); (case' pq103 => (exact fun _ _ _ h => h)); (case' pr103 => (intro w' hw'; go_simp; with_reducible rfl)); (case' ph103 => (try simp only [List.getElem_toArray, List.getElem_cons_zero, List.getElem_cons_succ, Act.put, List.setIfInBounds_toArray, List.set_cons_zero, List.set_cons_succ])))
                  (refine' pickT_val (v := (.string x)) ?po104 ?pw104 ?pr104 ?pq104 ?ph104; (case' po104 => exact rfl); (case' pw104 => rfl); (case' pq104 => (exact fun _ _ _ h => h)); (case' pr104 => (intro w' hw'; exact run_opLoad1 rfl rfl hw'.2 Try.underlying9 rfl)); (case' ph104 => (try simp only [List.getElem_toArray, List.getElem_cons_zero, List.getElem_cons_succ, Act.put, List.setIfInBounds_toArray, List.set_cons_zero, List.set_cons_succ])))
                  refine pickT_nil ?_
                  refine seqT_does rfl rfl (does_one (cs := [.string x]) rfl rfl rfl rfl Try.underlying22 infoStrZ rfl (by simp) (by simp)) ?_
                  rintro _ w8 ⟨g8', rfl, hb8, hc8⟩
                  replace HS := hid (HS.out.grow hb8)
                  replace HTB := hid (HTB.out.grow hb8)
                  replace HB := hid (Grow.trans HB.out hb8)
                  replace HSZ := hid (Nat.le_trans HSZ.out (hb8).size)
                  replace HHC := hid (grow_block HHC.out hb8)
                  replace HXC := hid (grow_cell HXC.out hb8)
                  clear hb8
                  refine ⟨⟨HHC.out, HXC.out⟩, ?_⟩
                  refine seqT_does rfl rfl (does_appOwn (v := .slice A2 hk.new.length k2) (news := [.string x]) (n := hk.new.length) (B := w.heap.size) rfl Try.underlying22 infoStrZ rfl (by decide) rfl rfl rfl hc8 (by intro u hu; cases hu with | head => rfl | tail _ h => cases h) HS.out.now.new HSZ.out (by have := HBD.out; omega) (by have := HBD.out; omega)) ?_
                  rintro o' w9 ⟨ho9, hg9, hm9⟩
                  have HOB := hid (fun k (hk' : Value.ownBlock (.slice A2 hk.new.length k2) = some k) => own_blk_ty HS.out.now.new hk')
                  have HG9 := hid (blk_other' hg9 HHC.out (fun e => by obtain ⟨cs', fr', h'⟩ := HOB.out gn e; exact blk_ne h' HHC.out (by decide) rfl))
                  have HW9 := hid (show Grow w w9 from Below.trans (show Below w.heap.size w _ from HB.out) (below_own HS.out.now.new hg9 HSZ.out))
                  have HT9 := hid (HTB.out.grown (T := 9) hg9 (fun k hk' => HOB.out k hk') (by decide))
                  have HX9 := hid (grow_cell HX0.out HW9.out)
                  refine ⟨⟨HG9.out, HX9.out⟩, ?_⟩
                  refine seqT_nil ?_
                  show wpList _ _ _ (_ :: _ :: []) _ _
                  go_wp2_with (first | (refine op_store1 (g := gn) (i := 2) (v := o') rfl rfl rfl rfl rfl HG9.out (own_cells ho9) (own_oneCell ho9) infoStrsS (by simp) ?_) | fail)
                  intro w6 hW hgr hbel
                  have HS6 := hid (rfNew HS.out ho9 hg9 hm9 HG9.out (by rw [hW]; rfl) hgr)
                  have HT6 := hid (HT9.out.grown (T := 79) hgr (fun k hk' => by cases hk'; exact ⟨_, _, HG9.out⟩) (by decide))
                  have HB6 := hid (show Grow w w6 from hbel _ _ HW9.out HS.out.low)
                  clear hW hgr hbel ho9 hg9 hm9 HG9 HX9 HW9 HT9 HOB HS HTB HB HSZ HHC HXC
                  go_wp2_with fail
                  refine hK _ _ (gk - 1) (by have := HZ.out; omega) ?_
                  rw [hJ]
                  refine ⟨k + 1, ov, hv, ⟨hp9, .slice A1 hk.old.length k1, o'⟩, rfl, rfl, rfl, rfl, rfl, rfl, ?_, ?_, ?_, ?_, ?_, HT6, HB6⟩
                  · rfl
                  · rw [HE.out]; rfl
                  · rw [HE.out]; exact congrArg (Value.int .i64) (by show (j : Int) + 1 = ((j + 1 : Nat) : Int); omega)
                  · rw [HE.out]; have := HZ.out; show gk - 1 + (i + (j + 1)) = n + m; omega
                  · rw [HE.out]; exact HS6
end Go.Proofs.Ytkbapegohodcgaa
