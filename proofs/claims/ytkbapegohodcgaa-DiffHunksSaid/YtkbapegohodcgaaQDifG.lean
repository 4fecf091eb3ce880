/- diff's hunks as a row that is read; diff.Of where lines aren't right; the chapter's example. -/
import Derived.Test.YtkbapegohodcgaaQDifF
set_option linter.unusedSimpArgs false
set_option linter.unusedVariables false
namespace Go.Proofs.Ytkbapegohodcgaa
open Go.RowKit
open Go.Qk hiding rotr b4
set_option maxHeartbeats 1000000
set_option maxRecDepth 100000
def hk0 : Dif.Hk ByteArray := ⟨0, [], []⟩
/-- One hunk that is read. -/
structure HkIs (w : World) (h : HkV) (x : Dif.Hk ByteArray) : Prop where
  pos : h.pos = (x.pos : Int)
  n : x.old.length = h.n
  m : x.new.length = h.m
  old : StrRow w h.a x.old
  new : StrRow w h.b x.new
theorem HkIs.grow {w w1 : World} {h : HkV} {x : Dif.Hk ByteArray} (hh : HkIs w h x) (hg : Grow w w1) : HkIs w1 h x := ⟨hh.pos, hh.n, hh.m, hh.old.grow hg, hh.new.grow hg⟩
structure HkRd (w : World) (A : Option Addr) (hs : List HkV) (L : List (Dif.Hk ByteArray)) : Prop where
  row : HkRow w A hs
  len : hs.length = L.length
  is : ∀ k, k < L.length → HkIs w (hs.getD k hkv0) (L.getD k hk0)
theorem HkRd.grow {w w1 : World} {A : Option Addr} {hs : List HkV} {L : List (Dif.Hk ByteArray)} (h : HkRd w A hs L) (hg : Grow w w1) : HkRd w1 A hs L := ⟨h.row.grow hg, h.len, fun k hk => (h.is k hk).grow hg⟩
theorem strRow_own {w : World} {B n : Nat} {v : Value} {xs : List ByteArray} (h : w.ownsRow B 9 1 v n (xs.map Value.string)) : ∃ A c, v = .slice A n c ∧ StrRow w A xs := by
  obtain ⟨A, c, rfl, hs⟩ := own_sl h
  refine ⟨A, c, rfl, ?_, fun hne => ?_⟩
  · have := h.1
    rcases h.2 with ⟨_, h0⟩ | ⟨g, cap, cur, _, _, _, h4, h5, _⟩
    · simp at this; omega
    · simp at this
      unfold maxLen at h5
      omega
  · obtain ⟨ad, e, hc⟩ := hs (by simpa using hne)
    exact ⟨ad, e, fun i hi => hc i _ (by simp [hi])⟩
def slA : Value → Option Addr | .slice a _ _ => a | _ => none
def slN : Value → Nat | .slice _ n _ => n | _ => 0
def slC : Value → Nat | .slice _ _ c => c | _ => 0
def toV (h : HkO) : HkV := ⟨(h.pos : Int), slA h.o, slN h.o, slC h.o, slA h.n, slN h.n, slC h.n⟩
theorem hkCells_get : ∀ (hv : List HkO) (i j : Nat) (h : HkO) (v : Value), hv[i]? = some h → h.cells[j]? = some v → j < 3 → (hkCells hv)[i * 3 + j]? = some v
  | [], i, j, h, v, hi, _, _ => by simp at hi
  | h0 :: t, i, j, h, v, hi, hv, hj => by
    have e : hkCells (h0 :: t) = h0.cells ++ hkCells t := rfl
    have l3 : h0.cells.length = 3 := rfl
    rw [e]
    cases i with
    | zero =>
      simp only [List.getElem?_cons_zero, Option.some.injEq] at hi
      subst hi
      rw [List.getElem?_append_left (by rw [l3]; omega), Nat.zero_mul, Nat.zero_add]
      exact hv
    | succ i =>
      rw [List.getElem?_cons_succ] at hi
      rw [List.getElem?_append_right (by rw [l3]; omega), l3, show (i + 1) * 3 + j - 3 = i * 3 + j by omega]
      exact hkCells_get t i j h v hi hv hj
theorem HkS.open {w : World} {B : Nat} {ov : Value} {hv : List HkO} {L : List (Dif.Hk ByteArray)} (h : HkS w B ov hv L) (hL : L.length ≤ 1000000) : ∃ A c hs, ov = .slice A L.length c ∧ HkRd w A hs L := by
  obtain ⟨A, c, rfl, hsl⟩ := own_sl h.own
  have hone : ∀ k (hk : k < L.length), ∃ (hk2 : k < hv.length), (toV hv[k]).cells = hv[k].cells ∧ HkIs w (toV hv[k]) L[k] := fun k hk => by
    have hk2 : k < hv.length := by rw [h.len]; exact hk
    have ha := h.each k hv[k] L[k] (by simp [hk2]) (by simp [hk])
    obtain ⟨Ao, co, eo, ro⟩ := strRow_own ha.old
    obtain ⟨An, cn, en, rn⟩ := strRow_own ha.new
    have ep := ha.pos
    refine ⟨hk2, ?_, ?_⟩
    · simp only [toV, HkV.cells, HkO.cells, eo, en, slA, slN, slC]
    · constructor
      · show ((hv[k].pos : Nat) : Int) = _; rw [ep]
      · show _ = slN hv[k].o; rw [eo]; rfl
      · show _ = slN hv[k].n; rw [en]; rfl
      · show StrRow w (slA hv[k].o) _; rw [eo]; exact ro
      · show StrRow w (slA hv[k].n) _; rw [en]; exact rn
  refine ⟨A, c, hv.map toV, rfl, ⟨⟨by simp [h.len]; omega, fun hne => ?_⟩, by simp [h.len], fun k hk => ?_⟩⟩
  · have hne2 : hkCells hv ≠ [] := fun e => by
      apply hne
      have := hkCells_len hv
      rw [e] at this
      simp at this
      rw [List.eq_nil_of_length_eq_zero (by omega : hv.length = 0)]
      rfl
    obtain ⟨ad, rfl, hc⟩ := hsl hne2
    refine ⟨ad, rfl, fun i hi j v hj => ?_⟩
    have hi2 : i < hv.length := by simpa using hi
    obtain ⟨_, ec, _⟩ := hone i (by rw [← h.len]; exact hi2)
    have e1 : (hv.map toV).getD i hkv0 = toV hv[i] := by simp [hi2]
    rw [e1, ec] at hj
    rw [addr_add_add]
    exact hc _ _ (hkCells_get hv i j hv[i] v (by simp [hi2]) hj (by
      have := (List.getElem?_eq_some_iff.1 hj).1
      exact this))
  · obtain ⟨hk2, _, hi⟩ := hone k hk
    have e1 : (hv.map toV).getD k hkv0 = toV hv[k] := by simp [hk2]
    have e2 : L.getD k hk0 = L[k] := by simp [hk]
    rw [e1, e2]
    exact hi
theorem HkRd.size {w : World} {A : Option Addr} {hs : List HkV} {L : List (Dif.Hk ByteArray)} (h : HkRd w A hs L) : ∀ k, k ≤ L.length → sizeV (hs.take k) = Dif.hksSize (L.take k)
  | 0, _ => rfl
  | k + 1, hk => by
    have ih := HkRd.size h k (by omega)
    have hi := h.is k (by omega)
    rw [sizeV_step hs k (by rw [h.len]; omega), ih]
    have e2 : L.take (k + 1) = L.take k ++ [L.getD k hk0] := by
      rw [List.take_succ_eq_append_getElem (by omega)]
      simp [show k < L.length by omega]
    rw [e2, Dif.hksSize_append]
    have : Dif.hksSize [L.getD k hk0] = (L.getD k hk0).old.length + (L.getD k hk0).new.length := by simp [Dif.hksSize, Dif.hkSize]
    rw [this, hi.n, hi.m]
    rfl
theorem hksSize_take {α : Type} [DecidableEq α] (L : List (Dif.Hk α)) (k : Nat) : Dif.hksSize (L.take k) ≤ Dif.hksSize L := by
  conv => rhs; rw [← List.take_append_drop k L, Dif.hksSize_append]
  omega
theorem hkSize_le {α : Type} (L : List (Dif.Hk α)) (x : Dif.Hk α) (h : x ∈ L) : x.old.length + x.new.length ≤ Dif.hksSize L := by
  induction L with
  | nil => cases h
  | cons a t ih =>
    have e : Dif.hksSize (a :: t) = a.old.length + a.new.length + Dif.hksSize t := by simp [Dif.hksSize, Dif.hkSize]
    rw [e]
    rcases List.mem_cons.1 h with rfl | h
    · omega
    · have := ih h; omega
theorem diffSizeL (A : Option Addr) (n c : Nat) (hs : List HkV) (L : List (Dif.Hk ByteArray)) (w : World) (h : HkRd w A hs L) (hn : L.length = n) (hz : Dif.hksSize L ≤ 1000000) :
    Calls Try.prog 58 #[.slice A n c] w fun e w' => e = .returned (.int .i64 (Dif.hksSize L : Int)) ∧ Below w.heap.size w w' := by
  have e := h.size L.length (Nat.le_refl _)
  rw [List.take_of_length_le (by rw [h.len]; omega), List.take_length] at e
  rw [← e]
  refine diffSize A n c hs w h.row (by rw [h.len, hn]) (fun k hk => ?_) (fun x hx => ?_)
  · rw [h.size k (by omega)]
    have := hksSize_take L k
    omega
  · obtain ⟨k, hk, rfl⟩ := List.getElem_of_mem hx
    have hk2 : k < L.length := by rw [← h.len]; exact hk
    have hi := h.is k hk2
    have e1 : hs.getD k hkv0 = hs[k] := by simp [hk]
    have e2 : L.getD k hk0 = L[k] := by simp [hk2]
    rw [e1, e2] at hi
    have := hkSize_le L L[k] (List.getElem_mem hk2)
    rw [hi.n, hi.m] at this
    omega
theorem diffL_bound (xs ys : List ByteArray) (hx : xs.length ≤ 1000) (hy : ys.length ≤ 1000) : Dif.hksSize (Dif.diffL ByteArray.empty xs ys) ≤ 2000 ∧ (Dif.diffL ByteArray.empty xs ys).length ≤ 2000 := by
  have h := (Dif.diffL_facts ByteArray.empty xs ys).2.2.2.2.2
  have h2 := hks_len (Dif.diffL ByteArray.empty xs ys) (fun x hx => ((Dif.diffL_facts ByteArray.empty xs ys).2.2.2.1 x hx).1)
  omega
/-- diff.Of: the hunks as they are read. -/
theorem diffOfR (A B : Option Addr) (n m c d : Nat) (xs ys : List ByteArray) (w : World) (hx : StrRow w A xs) (hy : StrRow w B ys) (hn : xs.length = n) (hm : ys.length = m) (hsa : ∀ s ∈ xs, s.size ≤ 9223372036854775807) (hsb : ∀ s ∈ ys, s.size ≤ 9223372036854775807) (hl : (linesB xs && linesB ys) = true) :
    Calls Try.prog 51 #[.slice A n c, .slice B m d] w fun e w' => ∃ A' c' hs, e = .returned (.tuple #[.slice A' (Dif.diffL ByteArray.empty xs ys).length c', .int .i64 0]) ∧ HkRd w' A' hs (Dif.diffL ByteArray.empty xs ys) ∧ Below w.heap.size w w' := by
  refine (diffOf A B n m c d xs ys w hx hy hn hm hsa hsb hl).mono ?_
  rintro e w' ⟨ov, hv, rfl, hs, hb⟩
  have hl2 : linesB xs = true ∧ linesB ys = true := by simpa using hl
  obtain ⟨A', c', hs', rfl, hr⟩ := hs.open (by have := diffL_bound xs ys (linesB_len hl2.1) (linesB_len hl2.2); omega)
  exact ⟨A', c', hs', rfl, hr, hb⟩
theorem diffOf_no (A B : Option Addr) (n m c d : Nat) (xs ys : List ByteArray) (w : World) (hx : StrRow w A xs) (hy : StrRow w B ys) (hn : xs.length = n) (hm : ys.length = m) (hsa : ∀ s ∈ xs, s.size ≤ 9223372036854775807) (hsb : ∀ s ∈ ys, s.size ≤ 9223372036854775807) (hl : (linesB xs && linesB ys) = false) :
    Calls Try.prog 51 #[.slice A n c, .slice B m d] w fun e w' => e = .returned (.tuple #[.slice none 0 0, .int .i64 3]) ∧ Below w.heap.size w w' := by
  have HC := hid (diffRight A B n m c d xs ys w hx hy hn hm hsa hsb)
  have HL := hid hl
  clear hx hy hn hm hsa hsb hl
  go_enter Try.func51, Try.ntmps51
  have HB := hid (grow_refl w)
  go_wp2_with fail
  go_step3
  go_wp2_with fail
  refine HC.out.mono ?_
  rintro _ w1 ⟨rfl, hb⟩
  have HB1 := hid hb
  clear hb
  rw [HL.out]
  go_wp2_with fail
  try rw [Exit.noGoto_ret]
  go_ret2
  exact ⟨rfl, HB1.out⟩
def sA : ByteArray := ⟨#[97]⟩
def sB : ByteArray := ⟨#[98]⟩
def sC : ByteArray := ⟨#[99]⟩
def sX : ByteArray := ⟨#[120]⟩
theorem diff_abc {α : Type} [DecidableEq α] (d a b c x : α) (h1 : a ≠ b) (h2 : a ≠ c) (h3 : a ≠ x) (h4 : b ≠ c) (h5 : b ≠ x) (h6 : c ≠ x) : Dif.diffL d [a, b, c] [a, x, c] = [⟨1, [b], [x]⟩] := by
  have g1 := h1.symm
  have g2 := h2.symm
  have g3 := h3.symm
  have g4 := h4.symm
  have g5 := h5.symm
  have g6 := h6.symm
  simp [Dif.diffL, Dif.stD, Dif.stepD, Dif.doneD, Dif.keepD, Dif.delD, Dif.keepSt, Dif.delSt, Dif.insSt, Dif.DSt.out, Dif.DSt.hk, Dif.kAt, Dif.lcs_cons, Dif.lcs_nil_l, Dif.lcs_nil_r, h1, h2, h3, h4, h5, h6, g1, g2, g3, g4, g5, g6]
theorem diff_awake : Dif.diffL ByteArray.empty [sA, sB, sC] [sA, sX, sC] = [⟨1, [sB], [sX]⟩] := diff_abc _ _ _ _ _ (by decide) (by decide) (by decide) (by decide) (by decide) (by decide)
theorem strRow3 {w : World} {g : Nat} {x y z : ByteArray} {t : TypeId} {fr : Nat × Nat} (h : w.heap[g]? = some (.cells #[.string x, .string y, .string z] t fr)) : StrRow w (some ⟨g, 0, none⟩) [x, y, z] := by
  refine ⟨by simp, fun _ => ⟨_, rfl, fun i hi => ?_⟩⟩
  have : i = 0 ∨ i = 1 ∨ i = 2 := by simp at hi; omega
  rcases this with rfl | rfl | rfl
  · exact blk_cell h rfl
  · rw [addr_add0]; exact blk_cell h rfl
  · rw [addr_add0]; exact blk_cell h rfl
end Go.Proofs.Ytkbapegohodcgaa
