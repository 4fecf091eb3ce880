/- Joined: QTwo0 QFlo2 QCel. -/
import Derived.Test.YtabkaflccaklhaaGreatQLamp2
import Derived.Test.YtabkaflccaklhaaGreatQFlo
import Derived.Test.YtabkaflccaklhaaGreatQFr
set_option linter.unusedSimpArgs false
set_option linter.unusedVariables false
section
/- A region of open order 'a, b := x, y': what is read comes first; then two cells in either order, and two stores. -/
namespace Go.Proofs.YtabkaflccaklhaaGreat
open Go.RowKit
open Go.Qk hiding rotr b4
set_option maxHeartbeats 1000000
section
variable {P : Program} {ops : Array Oper} {md : Region.Mode} {Q : Exit → Act → World → Prop}
def two0B (md : Region.Mode) (ops : Array Oper) (l : Array Bool) (p q s t : Nat) : Bool :=
  [([], [p, q]), ([p], [q]), ([q], [p]), ([p, q], [s]), ([q, p], [s]), ([p, q, s], [t]), ([q, p, s], [t]), ([p, q, s, t], []), ([q, p, s, t], [])].all fun x => Region.ready md ops (setsB l x.1) == x.2
theorem two_any0 {l : Array Bool} {p q s t : Nat} (tb : two0B md ops l p q s t = true) {op oq os ot : Oper} {dp dq : Tmp} {a : Act} {w : World} {Z BX BY : Obj}
    (hop : ops[p]? = some op) (hoq : ops[q]? = some oq) (hos : ops[s]? = some os) (hot : ops[t]? = some ot)
    (gp : op.guard = none) (gq : oq.guard = none) (gs : os.guard = none) (gt : ot.guard = none)
    (ep : op.dst = some dp) (eq : oq.dst = some dq) (es : os.dst = none) (et : ot.dst = none) (npq : dp ≠ dq)
    (hp : ∀ a W, Does P op a W (Made Z W)) (hq : ∀ a W, Does P oq a W (Made Z W))
    (hs2 : ∀ g h W, W.heap[g]? = some Z → Does P os ((a.put (some dp) (ptrV g)).put (some dq) (ptrV h)) W (fun _ W' => Wrote g BX W W'))
    (ht : ∀ g h W, W.heap[h]? = some Z → Does P ot ((a.put (some dp) (ptrV g)).put (some dq) (ptrV h)) W (fun _ W' => Wrote h BY W W'))
    (hend : ∀ g h W, Grow w W → w.heap.size ≤ g → w.heap.size ≤ h → g < W.heap.size → h < W.heap.size → g ≠ h → W.heap[g]? = some BX → W.heap[h]? = some BY → Q .normal ((a.put (some dp) (ptrV g)).put (some dq) (ptrV h)) W) :
    wpAnyH P md ops Q (fun W => Grow w W) 4 l a w := by
  simp only [two0B, List.all_cons, List.all_nil, Bool.and_true, Bool.and_eq_true, beq_iff_eq, setsB] at tb
  obtain ⟨r0, rp, rq, rpq, rqp, rs1, rs2, z1, z2⟩ := tb
  have lt_of : ∀ {W : World} {g : Nat} {Y : Obj}, W.heap[g]? = some Y → g < W.heap.size := fun h => (Array.getElem?_eq_some_iff.1 h).1
  have pq : ∀ (a : Act) (u v : Value), (a.put (some dq) u).put (some dp) v = (a.put (some dp) v).put (some dq) u := fun a u v => Act.put_comm a u v (by intro d h1 h2; cases h1; cases h2; exact npq rfl)
  have pn : ∀ (a : Act) (v : Value), a.put none v = a := fun a v => rfl
  have L2 : ∀ (L : Array Bool) (g h : Nat) (W : World), Region.ready md ops L = [s] → Region.ready md ops (L.setIfInBounds s true) = [t] → Region.ready md ops ((L.setIfInBounds s true).setIfInBounds t true) = [] → Grow w W → w.heap.size ≤ g → w.heap.size ≤ h → g ≠ h → W.heap[g]? = some Z → W.heap[h]? = some Z →
      wpAnyH P md ops Q (fun W => Grow w W) 2 L ((a.put (some dp) (ptrV g)).put (some dq) (ptrV h)) W := by
    intro L g h W r1 r2 r3 hg h1 h2 hne hX hZ
    refine wpAnyH_all r1 (by simp) fun i hi => ?_
    obtain rfl : i = s := by simpa using hi
    refine wpOp_does hos gs (hs2 g h W hX) fun v W' k => ?_
    rw [es, pn]
    have hG := k.2.2 _ _ hg h1
    refine ⟨hG, wpAnyH_all r2 (by simp) fun i hi => ?_⟩
    obtain rfl : i = t := by simpa using hi
    have hZ' := k.other (Ne.symm hne) hZ
    refine wpOp_does hot gt (ht g h W' hZ') fun v W2 k2 => ?_
    rw [et, pn]
    have hG2 := k2.2.2 _ _ hG h2
    exact ⟨hG2, wpAnyH_done r3 (hend g h W2 hG2 h1 h2 (Nat.lt_of_lt_of_le (lt_of k.1) k2.size) (Nat.lt_of_lt_of_le (lt_of hZ') k2.size) hne (k2.other hne k.1) k2.1) _⟩
  refine wpAnyH_all r0 (by simp) fun i hi => ?_
  simp only [List.mem_cons, List.not_mem_nil, or_false] at hi
  rcases hi with rfl | rfl
  · refine wpOp_does hop gp (hp _ w) fun v W1 ⟨g, hv, b1, b2, k1, m1⟩ => ⟨k1, ?_⟩
    subst hv
    rw [ep]
    refine wpAnyH_all rp (by simp) fun j hj => ?_
    obtain rfl : j = _ := by simpa using hj
    refine wpOp_does hoq gq (hq _ W1) fun v W2 ⟨h, hv, b3, b4, k2, m2⟩ => ⟨k1.trans k2, ?_⟩
    subst hv
    rw [eq]
    exact L2 _ g h W2 rpq rs1 z1 (k1.trans k2) b1 (Nat.le_trans k1.size b3) (by omega) (made_grow k2 m1) m2
  · refine wpOp_does hoq gq (hq _ w) fun v W1 ⟨h, hv, b1, b2, k1, m1⟩ => ⟨k1, ?_⟩
    subst hv
    rw [eq]
    refine wpAnyH_all rq (by simp) fun j hj => ?_
    obtain rfl : j = _ := by simpa using hj
    refine wpOp_does hop gp (hp _ W1) fun v W2 ⟨g, hv, b3, b4, k2, m2⟩ => ⟨k1.trans k2, ?_⟩
    subst hv
    rw [ep, pq]
    exact L2 _ g h W2 rqp rs2 z2 (k1.trans k2) (Nat.le_trans k1.size b3) b1 (by omega) m2 (made_grow k2 m1)
end
end Go.Proofs.YtabkaflccaklhaaGreat
end
section
/- A drawn region in which some operations that hang on no world may come behind a write, and all that read come ahead of it. -/
namespace Go.Qk
open Go.RowKit
section
variable {P : Program} {ops : Array Oper} {md : Region.Mode} {Q : Exit → Act → World → Prop} {S : World → Prop}
def PickQ (P : Program) (ops : Array Oper) (Q : Exit → Act → World → Prop) (S : World → Prop) (ks1 ks2 ps : List Nat) : List Nat → Act → World → Prop
  | q :: qs, a, w => ∃ o v, ops[q]? = some o ∧ Yields P ops o v a ∧ (∀ c a w, Q (.panic c) (a.put o.dst v) w → Q (.panic c) a w) ∧ PickQ P ops Q S ks1 ks2 ps qs (a.put o.dst v) w
  | [], a, w => PickT P ops Q S ks1 ks2 ps a w
def okPickQ (md : Region.Mode) (ops : Array Oper) (ks ps : List Nat) : List Nat → Array Bool → Bool
  | q :: qs, l => Region.free md ops l q && (Region.ready md ops l).contains q && okPickQ md ops ks ps qs (l.setIfInBounds q true)
  | [], l => okPickT md ops ks ps l
theorem pickQ_any (hs : Region.noSelect ops = true) (ks1 ks2 ps : List Nat) (hn : ∀ p ∈ ps, ∀ j ∈ ks2, needsB md ops p ops.size j = true) : ∀ (qs : List Nat) (l : Array Bool) (a : Act) (w : World), okPickQ md ops (ks1 ++ ks2) ps qs l = true → LOK md ops l → S w → PickQ P ops Q S ks1 ks2 ps qs a w → wpAny P md ops Q (qs.length + (ps.length + (ks1.length + ks2.length))) l a w
  | [], l, a, w, hok, hL, hS, h => by
    have := wpAny_of_T (T := ks2) (S := S) _ _ _ _ (pickT_any (P := P) (Q := Q) (S := S) hs ks1 ks2 ps l a w hn hok hL hS h)
    simpa using this
  | q :: qs, l, a, w, hok, hL, hS, h => by
    obtain ⟨o, v, ho, hy, hq, hr⟩ := h
    simp only [okPickQ, Bool.and_eq_true] at hok
    have e : (q :: qs).length + (ps.length + (ks1.length + ks2.length)) = (qs.length + (ps.length + (ks1.length + ks2.length))) + 1 := by simp; omega
    rw [e]
    have hp : q ∈ Region.ready md ops l := by simpa using hok.1.2
    exact wpAny_take ho hs hok.1.1 hok.1.2 hq hy (pickQ_any hs ks1 ks2 ps hn qs _ _ w hok.2 (lok_set hL hp) hS hr)
theorem wp_region_floatQ {id : Nat} {a : Act} {w : World} {l : List Oper} (S : World → Prop) (qs ps ks1 ks2 : List Nat) (hm : P.follows .mixedOrders = true) (hs : Region.noSelect l.toArray = true) (hn : qs.length + (ps.length + (ks1.length + ks2.length)) = l.toArray.size)
    (hok : okPickQ .any l.toArray (ks1 ++ ks2) ps qs (Array.replicate l.toArray.size false) = true) (hneed : allNeed .any l.toArray ps ks2 = true)
    (h : ∀ w', Grow w w' → S w' ∧ PickQ P l.toArray Q S ks1 ks2 ps qs a w') : (Code.region id l.toArray true).wp P Q a w := by
  have h' := h { w with drawn := w.drawn + 1 } (Below.drew (Below.refl _ _))
  refine wp_region_any hm ?_
  have := pickQ_any (P := P) (Q := Q) (S := S) (md := .any) hs ks1 ks2 ps (fun p hp j hj => by
    have h1 := List.all_eq_true.1 hneed p hp
    exact List.all_eq_true.1 h1 j hj) qs (Array.replicate l.toArray.size false) a { w with drawn := w.drawn + 1 } hok (fun k ok hk hl => by rw [getD_replicate_false] at hl; cases hl) h'.1 h'.2
  rwa [hn] at this
theorem pickQ_val {ks1 ks2 ps qs : List Nat} {q : Nat} {a : Act} {w : World} {o : Oper} {v : Value} (ho : ops[q]? = some o) (hwant : Region.wanted o (yielded ops a.tmps) = true) (hrun : ∀ w, (execOp a.eval o).run P w = .ok (.value v) w)
    (hq : ∀ c a w, Q (.panic c) (a.put o.dst v) w → Q (.panic c) a w) (h : PickQ P ops Q S ks1 ks2 ps qs (a.put o.dst v) w) : PickQ P ops Q S ks1 ks2 ps (q :: qs) a w := ⟨o, v, ho, .inl ⟨hwant, hrun⟩, hq, h⟩
theorem pickQ_nil {ks1 ks2 ps : List Nat} {a : Act} {w : World} (h : PickT P ops Q S ks1 ks2 ps a w) : PickQ P ops Q S ks1 ks2 ps [] a w := h
end
end Go.Qk
end
section
/- A cell for a struct, made in a drawn region. -/
namespace Go.Proofs.YtabkaflccaklhaaGreat
open Go.RowKit
open Go.Qk hiding rotr b4
set_option maxHeartbeats 1000000
/-- A cell for a struct, made in a drawn region. -/
def celNewW (T : TypeId) (cs : Array Value) (W : World) (v : Value) (w : World) : Prop := ∃ g, v = .pointer (some ⟨g, 0, none⟩) ∧ W.heap.size ≤ g ∧ w.heap[g]? = some (.cells cs T (0, 0))
section
variable {ops : Array Oper} {W : World} {Qe : (Tmp → World → Prop) → Act → Prop}
theorem head_newCW {o : Oper} {r : List (Oper × (Value → World → Prop))} {E : Tmp → World → Prop} {a : Act} {T : TypeId} {cs : Array Value} (hwant : Region.wanted o (yielded ops a.tmps) = true) (ho : o.op = .alloc T)
    (hr : ∀ w, (Instr.alloc T true (.tuple #[])).run Tryz.prog w = .ok (.pointer (some ⟨w.heap.size, 0, none⟩)) (w.alloc (.cells cs T)))
    (h : ∀ g, Head Tryz.prog ops W Qe r (upE E o.dst (celNewW T cs W (.pointer (some ⟨g, 0, none⟩)))) (a.put o.dst (.pointer (some ⟨g, 0, none⟩)))) : Head Tryz.prog ops W Qe ((o, celNewW T cs W) :: r) E a := by
  refine head_abs (V := celNewW T cs W) hwant ?_ ?_ ?_
  · rintro v w1 w2 ⟨g, rfl, h1, h3⟩ hg
    exact ⟨g, rfl, h1, grow_block h3 hg⟩
  · intro w1 hw1 _
    refine does_val (v := .pointer (some ⟨w1.heap.size, 0, none⟩)) (w' := w1.alloc (.cells cs T)) ?_ ⟨grow_alloc _ _, _, rfl, hw1.size, heap_alloc_new _ _⟩
    unfold execOp
    simp only [ho, Sem.run_bind, Sem.run_pure, Result.andThen_ok, hr]
  · rintro v ⟨_, g, rfl, _⟩
    exact h g
theorem celNewW_at {E : Tmp → World → Prop} {t : Tmp} {g : Nat} {w : World} {T : TypeId} {cs : Array Value} (h : upE E (some t) (celNewW T cs W (.pointer (some ⟨g, 0, none⟩))) t w) : W.heap.size ≤ g ∧ w.heap[g]? = some (.cells cs T (0, 0)) := by
  unfold upE at h
  rw [if_pos rfl] at h
  obtain ⟨g', hg, h1, h3⟩ := h
  injection hg with hg
  injection hg with hg
  injection hg with hg
  subst hg
  exact ⟨h1, h3⟩
end
end Go.Proofs.YtabkaflccaklhaaGreat
end
