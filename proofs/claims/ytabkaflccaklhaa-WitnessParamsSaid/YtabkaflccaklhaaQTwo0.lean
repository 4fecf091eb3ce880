/- A region of open order 'a, b := x, y': what is read comes first; then two cells in either order, and two stores. -/
import Derived.Test.YtabkaflccaklhaaQLamp2
set_option linter.unusedSimpArgs false
set_option linter.unusedVariables false
namespace Go.Proofs.Ytabkaflccaklhaa
open Go.RowKit
open Go.Qk hiding rotr b4
set_option maxHeartbeats 1000000
section
variable {P : Program} {ops : Array Oper} {md : Region.Mode} {Q : Exit → Act → World → Prop}
def two0B (md : Region.Mode) (ops : Array Oper) (l : Array Bool) (p q s t : Nat) : Bool :=
  [([], [p, q]), ([p], [q]), ([q], [p]), ([p, q], [s]), ([q, p], [s]), ([p, q, s], [t]), ([q, p, s], [t]), ([p, q, s, t], []), ([q, p, s, t], [])].all fun x => Region.ready md ops (setsB l x.1) == x.2
theorem two_any0 {l : Array Bool} {p q s t : Nat} (tb : two0B md ops l p q s t = true) {op oq os ot : Oper} {dp dq : Tmp} {a : Act} {w : World} {Z BX BY : Obj}
    (hop : ops[p]? = some op) (hoq : ops[q]? = some oq) (hos : ops[s]? = some os) (hot : ops[t]? = some ot)
    (gp : op.guard = none) (gq : oq.guard = none) (gs : os.guard = none) (gt : ot.guard = none)
    (ep : op.dst = some dp) (eq : oq.dst = some dq) (es : os.dst = none) (et : ot.dst = none) (npq : dp ≠ dq)
    (hp : ∀ a W, Does P op a W (Made Z W)) (hq : ∀ a W, Does P oq a W (Made Z W))
    (hs2 : ∀ g h W, W.heap[g]? = some Z → Does P os ((a.put (some dp) (ptrV g)).put (some dq) (ptrV h)) W (fun _ W' => Wrote g BX W W'))
    (ht : ∀ g h W, W.heap[h]? = some Z → Does P ot ((a.put (some dp) (ptrV g)).put (some dq) (ptrV h)) W (fun _ W' => Wrote h BY W W'))
    (hend : ∀ g h W, Grow w W → w.heap.size ≤ g → w.heap.size ≤ h → g < W.heap.size → h < W.heap.size → g ≠ h → W.heap[g]? = some BX → W.heap[h]? = some BY → Q .normal ((a.put (some dp) (ptrV g)).put (some dq) (ptrV h)) W) :
    wpAnyH P md ops Q (fun W => Grow w W) 4 l a w := by
  simp only [two0B, List.all_cons, List.all_nil, Bool.and_true, Bool.and_eq_true, beq_iff_eq, setsB] at tb
  obtain ⟨r0, rp, rq, rpq, rqp, rs1, rs2, z1, z2⟩ := tb
  have lt_of : ∀ {W : World} {g : Nat} {Y : Obj}, W.heap[g]? = some Y → g < W.heap.size := fun h => (Array.getElem?_eq_some_iff.1 h).1
  have pq : ∀ (a : Act) (u v : Value), (a.put (some dq) u).put (some dp) v = (a.put (some dp) v).put (some dq) u := fun a u v => Act.put_comm a u v (by intro d h1 h2; cases h1; cases h2; exact npq rfl)
  have pn : ∀ (a : Act) (v : Value), a.put none v = a := fun a v => rfl
  have L2 : ∀ (L : Array Bool) (g h : Nat) (W : World), Region.ready md ops L = [s] → Region.ready md ops (L.setIfInBounds s true) = [t] → Region.ready md ops ((L.setIfInBounds s true).setIfInBounds t true) = [] → Grow w W → w.heap.size ≤ g → w.heap.size ≤ h → g ≠ h → W.heap[g]? = some Z → W.heap[h]? = some Z →
      wpAnyH P md ops Q (fun W => Grow w W) 2 L ((a.put (some dp) (ptrV g)).put (some dq) (ptrV h)) W := by
    intro L g h W r1 r2 r3 hg h1 h2 hne hX hZ
    refine wpAnyH_all r1 (by simp) fun i hi => ?_
    obtain rfl : i = s := by simpa using hi
    refine wpOp_does hos gs (hs2 g h W hX) fun v W' k => ?_
    rw [es, pn]
    have hG := k.2.2 _ _ hg h1
    refine ⟨hG, wpAnyH_all r2 (by simp) fun i hi => ?_⟩
    obtain rfl : i = t := by simpa using hi
    have hZ' := k.other (Ne.symm hne) hZ
    refine wpOp_does hot gt (ht g h W' hZ') fun v W2 k2 => ?_
    rw [et, pn]
    have hG2 := k2.2.2 _ _ hG h2
    exact ⟨hG2, wpAnyH_done r3 (hend g h W2 hG2 h1 h2 (Nat.lt_of_lt_of_le (lt_of k.1) k2.size) (Nat.lt_of_lt_of_le (lt_of hZ') k2.size) hne (k2.other hne k.1) k2.1) _⟩
  refine wpAnyH_all r0 (by simp) fun i hi => ?_
  simp only [List.mem_cons, List.not_mem_nil, or_false] at hi
  rcases hi with rfl | rfl
  · refine wpOp_does hop gp (hp _ w) fun v W1 ⟨g, hv, b1, b2, k1, m1⟩ => ⟨k1, ?_⟩
    subst hv
    rw [ep]
    refine wpAnyH_all rp (by simp) fun j hj => ?_
    obtain rfl : j = _ := by simpa using hj
    refine wpOp_does hoq gq (hq _ W1) fun v W2 ⟨h, hv, b3, b4, k2, m2⟩ => ⟨k1.trans k2, ?_⟩
    subst hv
    rw [eq]
    exact L2 _ g h W2 rpq rs1 z1 (k1.trans k2) b1 (Nat.le_trans k1.size b3) (by omega) (made_grow k2 m1) m2
  · refine wpOp_does hoq gq (hq _ w) fun v W1 ⟨h, hv, b1, b2, k1, m1⟩ => ⟨k1, ?_⟩
    subst hv
    rw [eq]
    refine wpAnyH_all rq (by simp) fun j hj => ?_
    obtain rfl : j = _ := by simpa using hj
    refine wpOp_does hop gp (hp _ W1) fun v W2 ⟨g, hv, b3, b4, k2, m2⟩ => ⟨k1.trans k2, ?_⟩
    subst hv
    rw [ep, pq]
    exact L2 _ g h W2 rqp rs2 z2 (k1.trans k2) (Nat.le_trans k1.size b3) b1 (by omega) m2 (made_grow k2 m1)
end
end Go.Proofs.Ytabkaflccaklhaa
