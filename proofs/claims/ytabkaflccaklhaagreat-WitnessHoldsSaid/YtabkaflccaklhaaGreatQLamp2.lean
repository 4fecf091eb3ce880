/- Joined: QTwo QLam9 QLamA QLamB. -/
import Derived.Test.YtabkaflccaklhaaGreatQKit1
import Derived.Test.YtabkaflccaklhaaGreatQSet1
import Derived.OrdersHeld
import Derived.Test.YtabkaflccaklhaaGreatQLamp1
set_option linter.unusedSimpArgs false
set_option linter.unusedVariables false
section
/- A region of open order 'x, y := f(l[i]), k[i]': loads out of what stood at the start come first; a call, two cells, two stores, in whichever order. -/
namespace Go.Proofs.YtabkaflccaklhaaGreat
open Go.RowKit
open Go.Qk hiding rotr b4
set_option maxHeartbeats 1000000
section
variable {P : Program} {ops : Array Oper} {md : Region.Mode} {S : World → Prop} {Q : Exit → Act → World → Prop}
theorem wpOp_does {i : Nat} {o : Oper} {a : Act} {w : World} {V : Value → World → Prop} {K : Act → World → Prop} (ho : ops[i]? = some o) (hg : o.guard = none) (hd : Does P o a w V) (hK : ∀ v w', V v w' → K (a.put o.dst v) w') : wpOp P ops Q i K a w := by
  have hw : Region.wanted o (yielded ops a.tmps) = true := by unfold Region.wanted; rw [hg]
  unfold wpOp
  simp only [ho, hw, if_true]
  exact .inl (hd.wp hK)
def setsB (l : Array Bool) : List Nat → Array Bool
  | [] => l
  | i :: r => setsB (l.setIfInBounds i true) r
/-- Those that hang on what stood at the start, in a row that is given; then the others. -/
def PickH (P : Program) (md : Region.Mode) (ops : Array Oper) (Q : Exit → Act → World → Prop) (S : World → Prop) (n : Nat) : List Nat → Array Bool → Act → World → Prop
  | p :: ps, l, a, w => ∃ o v, ops[p]? = some o ∧ YieldsIf P ops S o v a ∧ (∀ c a w, Q (.panic c) (a.put o.dst v) w → Q (.panic c) a w) ∧ PickH P md ops Q S n ps (l.setIfInBounds p true) (a.put o.dst v) w
  | [], l, a, w => wpAnyH P md ops Q S n l a w
def okPickH (md : Region.Mode) (ops : Array Oper) : List Nat → Array Bool → Bool
  | p :: ps, l => Region.free md ops l p && (Region.ready md ops l).contains p && okPickH md ops ps (l.setIfInBounds p true)
  | [], _ => true
theorem pickH_any (hs : Region.noSelect ops = true) {n : Nat} : ∀ (ps : List Nat) (l : Array Bool) (a : Act) (w : World), okPickH md ops ps l = true → S w → PickH P md ops Q S n ps l a w → wpAnyH P md ops Q S (ps.length + n) l a w
  | [], l, a, w, _, _, h => by simpa [PickH] using h
  | p :: ps, l, a, w, hok, hS, h => by
    obtain ⟨o, v, ho, hy, hq, hr⟩ := h
    simp only [okPickH, Bool.and_eq_true] at hok
    have e : (p :: ps).length + n = (ps.length + n) + 1 := by simp; omega
    rw [e]
    exact wpAnyH_take ho hs hok.1.1 hok.1.2 hq hy hS (pickH_any hs ps _ _ w hok.2 hS hr)
theorem wp_region_pickH {id : Nat} {a : Act} {w : World} (S : World → Prop) (ps : List Nat) (n : Nat) (hm : P.follows .mixedOrders = true) (hs : Region.noSelect ops = true) (hn : ps.length + n = ops.size) (hok : okPickH .any ops ps (Array.replicate ops.size false) = true)
    (hS : S { w with drawn := w.drawn + 1 }) (h : PickH P .any ops Q S n ps (Array.replicate ops.size false) a { w with drawn := w.drawn + 1 }) : (Code.region id ops true).wp P Q a w := by
  refine wp_region_held (S := S) hm ?_
  have := pickH_any hs ps _ a _ hok hS h
  rwa [hn] at this
theorem pickH_val {n p : Nat} {ps : List Nat} {l : Array Bool} {a : Act} {w : World} {o : Oper} {v : Value} (ho : ops[p]? = some o) (hwant : Region.wanted o (yielded ops a.tmps) = true) (hrun : ∀ w, S w → (execOp a.eval o).run P w = .ok (.value v) w)
    (hq : ∀ c a w, Q (.panic c) (a.put o.dst v) w → Q (.panic c) a w) (h : PickH P md ops Q S n ps (l.setIfInBounds p true) (a.put o.dst v) w) : PickH P md ops Q S n (p :: ps) l a w := ⟨o, v, ho, .inl ⟨hwant, hrun⟩, hq, h⟩

theorem pickH_nil {n : Nat} {l : Array Bool} {a : Act} {w : World} (h : wpAnyH P md ops Q S n l a w) : PickH P md ops Q S n [] l a w := h
/-- What comes up in which state: a call c, cells p and q, stores s (of the call's value, in p) and t. -/
def twoB (md : Region.Mode) (ops : Array Oper) (l : Array Bool) (c p q s t : Nat) : Bool :=
  [([], [c, p, q]), ([c], [p, q]), ([p], [c, q]), ([q], [c, p]),
    ([c, p], [q]), ([p, c], [q]), ([c, q], [p]), ([q, c], [p]), ([p, q], [c]), ([q, p], [c]),
    ([c, p, q], [s]), ([p, c, q], [s]), ([c, q, p], [s]), ([q, c, p], [s]), ([p, q, c], [s]), ([q, p, c], [s]),
    ([c, p, q, s], [t]), ([p, c, q, s], [t]), ([c, q, p, s], [t]), ([q, c, p, s], [t]), ([p, q, c, s], [t]), ([q, p, c, s], [t]),
    ([c, p, q, s, t], []), ([p, c, q, s, t], []), ([c, q, p, s, t], []), ([q, c, p, s, t], []), ([p, q, c, s, t], []), ([q, p, c, s, t], [])].all fun x => Region.ready md ops (setsB l x.1) == x.2
end
def ptrV (g : Nat) : Value := .pointer (some ⟨g, 0, none⟩)
/-- A cell of type t made in w. -/
def Made (Z : Obj) (w : World) (v : Value) (w' : World) : Prop := ∃ g, v = ptrV g ∧ w.heap.size ≤ g ∧ g < w'.heap.size ∧ Grow w w' ∧ w'.heap[g]? = some Z
/-- Block g was written, nothing else. -/
def Wrote (g : Nat) (Z : Obj) (w w' : World) : Prop := w'.heap[g]? = some Z ∧ w.grownBy w' (some g) ∧ (∀ B w0, Below B w0 w → B ≤ g → Below B w0 w')
theorem Wrote.other {g h : Nat} {Z Y : Obj} {w w' : World} (k : Wrote g Z w w') (hne : h ≠ g) (hh : w.heap[h]? = some Y) : w'.heap[h]? = some Y := by
  obtain ⟨_, _, _, _, hb⟩ := k.2.1
  have hlt : h < w.heap.size := (Array.getElem?_eq_some_iff.1 hh).1
  rw [hb h hlt (by simp; omega)]
  exact hh
theorem Wrote.size {g : Nat} {Z : Obj} {w w' : World} (k : Wrote g Z w w') : w.heap.size ≤ w'.heap.size := k.2.1.size
theorem made_grow {Y : Obj} {h : Nat} {w w' : World} (k : Grow w w') (hh : w.heap[h]? = some Y) : w'.heap[h]? = some Y := by
  rw [k.block h (Array.getElem?_eq_some_iff.1 hh).1]
  exact hh
section
variable {P : Program} {ops : Array Oper} {md : Region.Mode} {Q : Exit → Act → World → Prop}
theorem two_any {l : Array Bool} {c p q s t : Nat} (tb : twoB md ops l c p q s t = true) {oc op oq os ot : Oper} {dc dp dq : Tmp} {a : Act} {w : World} {X : Value} {Z BX BY : Obj}
    (hoc : ops[c]? = some oc) (hop : ops[p]? = some op) (hoq : ops[q]? = some oq) (hos : ops[s]? = some os) (hot : ops[t]? = some ot)
    (gc : oc.guard = none) (gp : op.guard = none) (gq : oq.guard = none) (gs : os.guard = none) (gt : ot.guard = none)
    (ec : oc.dst = some dc) (ep : op.dst = some dp) (eq : oq.dst = some dq) (es : os.dst = none) (et : ot.dst = none) (ncp : dc ≠ dp) (ncq : dc ≠ dq) (npq : dp ≠ dq)
    (hsel : ∀ cs b, oc.op ≠ .select cs b) (ap : op.apart ops oc = true) (aq : oq.apart ops oc = true)
    (hcall : ∀ W, Grow w W → Does P oc a W (fun v W' => v = X ∧ Grow W W')) (hp : ∀ a W, Does P op a W (Made Z W)) (hq : ∀ a W, Does P oq a W (Made Z W))
    (hs2 : ∀ g h W, W.heap[g]? = some Z → Does P os (((a.put (some dc) X).put (some dp) (ptrV g)).put (some dq) (ptrV h)) W (fun _ W' => Wrote g BX W W'))
    (ht : ∀ g h W, W.heap[h]? = some Z → Does P ot (((a.put (some dc) X).put (some dp) (ptrV g)).put (some dq) (ptrV h)) W (fun _ W' => Wrote h BY W W'))
    (hend : ∀ g h W, Grow w W → w.heap.size ≤ g → w.heap.size ≤ h → g < W.heap.size → h < W.heap.size → g ≠ h → W.heap[g]? = some BX → W.heap[h]? = some BY → Q .normal (((a.put (some dc) X).put (some dp) (ptrV g)).put (some dq) (ptrV h)) W) :
    wpAnyH P md ops Q (fun W => Grow w W) 5 l a w := by
  have xp : ∀ (a : Act) g, execOp (a.put (some dp) (ptrV g)).eval oc = execOp a.eval oc := fun a g => by
    have := execOp_put oc hsel a op.dst (ptrV g) (Oper.apart_spec ap).1
    rwa [ep] at this
  have xq : ∀ (a : Act) g, execOp (a.put (some dq) (ptrV g)).eval oc = execOp a.eval oc := fun a g => by
    have := execOp_put oc hsel a oq.dst (ptrV g) (Oper.apart_spec aq).1
    rwa [eq] at this
  have xpq : ∀ g h, execOp ((a.put (some dp) (ptrV g)).put (some dq) (ptrV h)).eval oc = execOp a.eval oc := fun g h => (xq _ h).trans (xp a g)
  simp only [twoB, List.all_cons, List.all_nil, Bool.and_true, Bool.and_eq_true, beq_iff_eq, setsB] at tb
  obtain ⟨r0, rc, rp, rq, rcp, rpc, rcq, rqc, rpq, rqp, rcpq, rpcq, rcqp, rqcp, rpqc, rqpc, rcpqs, rpcqs, rcqps, rqcps, rpqcs, rqpcs, z1, z2, z3, z4, z5, z6⟩ := tb
  have lt_of : ∀ {W : World} {g : Nat} {Y : Obj}, W.heap[g]? = some Y → g < W.heap.size := fun h => (Array.getElem?_eq_some_iff.1 h).1
  have cc : ∀ (a : Act) (u v : Value), (a.put (some dp) u).put (some dc) v = (a.put (some dc) v).put (some dp) u := fun a u v => Act.put_comm a u v (by intro d h1 h2; cases h1; cases h2; exact ncp rfl)
  have cq : ∀ (a : Act) (u v : Value), (a.put (some dq) u).put (some dc) v = (a.put (some dc) v).put (some dq) u := fun a u v => Act.put_comm a u v (by intro d h1 h2; cases h1; cases h2; exact ncq rfl)
  have pq : ∀ (a : Act) (u v : Value), (a.put (some dq) u).put (some dp) v = (a.put (some dp) v).put (some dq) u := fun a u v => Act.put_comm a u v (by intro d h1 h2; cases h1; cases h2; exact npq rfl)
  have pn : ∀ (a : Act) (v : Value), a.put none v = a := fun a v => rfl
  -- the last store
  have L1 : ∀ (L : Array Bool) (g h : Nat) (W : World), Region.ready md ops L = [t] → Region.ready md ops (L.setIfInBounds t true) = [] → Grow w W → w.heap.size ≤ g → w.heap.size ≤ h → g ≠ h → W.heap[g]? = some BX → W.heap[h]? = some Z →
      wpAnyH P md ops Q (fun W => Grow w W) 1 L (((a.put (some dc) X).put (some dp) (ptrV g)).put (some dq) (ptrV h)) W := by
    intro L g h W r1 r2 hg h1 h2 hne hX hZ
    refine wpAnyH_all r1 (by simp) fun i hi => ?_
    obtain rfl : i = t := by simpa using hi
    refine wpOp_does hot gt (ht g h W hZ) fun v W' k => ?_
    rw [et, pn]
    have hG := k.2.2 _ _ hg h2
    exact ⟨hG, wpAnyH_done r2 (hend g h W' hG h1 h2 (Nat.lt_of_lt_of_le (lt_of hX) k.size) (Nat.lt_of_lt_of_le (lt_of hZ) k.size) hne (k.other hne hX) k.1) _⟩
  -- both stores
  have L2 : ∀ (L : Array Bool) (g h : Nat) (W : World), Region.ready md ops L = [s] → Region.ready md ops (L.setIfInBounds s true) = [t] → Region.ready md ops ((L.setIfInBounds s true).setIfInBounds t true) = [] → Grow w W → w.heap.size ≤ g → w.heap.size ≤ h → g ≠ h → W.heap[g]? = some Z → W.heap[h]? = some Z →
      wpAnyH P md ops Q (fun W => Grow w W) 2 L (((a.put (some dc) X).put (some dp) (ptrV g)).put (some dq) (ptrV h)) W := by
    intro L g h W r1 r2 r3 hg h1 h2 hne hX hZ
    refine wpAnyH_all r1 (by simp) fun i hi => ?_
    obtain rfl : i = s := by simpa using hi
    refine wpOp_does hos gs (hs2 g h W hX) fun v W' k => ?_
    rw [es, pn]
    have hG := k.2.2 _ _ hg h1
    exact ⟨hG, L1 _ g h W' r2 r3 hG h1 h2 hne k.1 (k.other (Ne.symm hne) hZ)⟩
  have dcall : ∀ a', execOp a'.eval oc = execOp a.eval oc → ∀ W, Grow w W → Does P oc a' W (fun v W' => v = X ∧ Grow W W') := fun a' e W hg => (hcall W hg).of_same e
  have Z0 : ∀ {o : Oper} {W : World} {a' : Act}, Does P o a' W (Made Z W) → Does P o a' W (Made Z W) := fun h => h
  -- p or q is still to come, the call and the other are there
  refine wpAnyH_all r0 (by simp) fun i hi => ?_
  simp only [List.mem_cons, List.not_mem_nil, or_false] at hi
  rcases hi with rfl | rfl | rfl
  · refine wpOp_does hoc gc (hcall w (Below.refl _ _)) fun v W1 ⟨hv, k1⟩ => ⟨k1, ?_⟩
    subst hv
    rw [ec]
    refine wpAnyH_all rc (by simp) fun j hj => ?_
    simp only [List.mem_cons, List.not_mem_nil, or_false] at hj
    rcases hj with rfl | rfl
    · refine wpOp_does hop gp (hp _ W1) fun v W2 ⟨g, hv, b1, b2, k2, m2⟩ => ⟨k1.trans k2, ?_⟩
      subst hv
      rw [ep]
      refine wpAnyH_all rcp (by simp) fun j hj => ?_
      obtain rfl : j = _ := by simpa using hj
      · refine wpOp_does hoq gq (hq _ W2) fun v W3 ⟨h, hv, b3, b4, k3, m3⟩ => ⟨(k1.trans k2).trans k3, ?_⟩
        subst hv
        rw [eq]
        exact L2 _ g h W3 rcpq rcpqs z1 ((k1.trans k2).trans k3) (Nat.le_trans k1.size b1) (Nat.le_trans (k1.trans k2).size b3) (by omega) (made_grow k3 m2) m3
    · refine wpOp_does hoq gq (hq _ W1) fun v W2 ⟨h, hv, b1, b2, k2, m2⟩ => ⟨k1.trans k2, ?_⟩
      subst hv
      rw [eq]
      refine wpAnyH_all rcq (by simp) fun j hj => ?_
      obtain rfl : j = _ := by simpa using hj
      refine wpOp_does hop gp (hp _ W2) fun v W3 ⟨g, hv, b3, b4, k3, m3⟩ => ⟨(k1.trans k2).trans k3, ?_⟩
      subst hv
      rw [ep, pq]
      exact L2 _ g h W3 rcqp rcqps z3 ((k1.trans k2).trans k3) (Nat.le_trans (k1.trans k2).size b3) (Nat.le_trans k1.size b1) (by omega) m3 (made_grow k3 m2)
  · refine wpOp_does hop gp (hp _ w) fun v W1 ⟨g, hv, b1, b2, k1, m1⟩ => ⟨k1, ?_⟩
    subst hv
    rw [ep]
    refine wpAnyH_all rp (by simp) fun j hj => ?_
    simp only [List.mem_cons, List.not_mem_nil, or_false] at hj
    rcases hj with rfl | rfl
    · refine wpOp_does hoc gc (dcall _ (xp a g) W1 k1) fun v W2 ⟨hv, k2⟩ => ⟨k1.trans k2, ?_⟩
      subst hv
      rw [ec, cc]
      refine wpAnyH_all rpc (by simp) fun j hj => ?_
      obtain rfl : j = _ := by simpa using hj
      · refine wpOp_does hoq gq (hq _ W2) fun v W3 ⟨h, hv, b3, b4, k3, m3⟩ => ⟨(k1.trans k2).trans k3, ?_⟩
        subst hv
        rw [eq]
        have := k2.size
        exact L2 _ g h W3 rpcq rpcqs z2 ((k1.trans k2).trans k3) b1 (Nat.le_trans (k1.trans k2).size b3) (by omega) (made_grow k3 (made_grow k2 m1)) m3
    · refine wpOp_does hoq gq (hq _ W1) fun v W2 ⟨h, hv, b3, b4, k2, m2⟩ => ⟨k1.trans k2, ?_⟩
      subst hv
      rw [eq]
      refine wpAnyH_all rpq (by simp) fun j hj => ?_
      obtain rfl : j = _ := by simpa using hj
      refine wpOp_does hoc gc (dcall _ (xpq g h) W2 (k1.trans k2)) fun v W3 ⟨hv, k3⟩ => ⟨(k1.trans k2).trans k3, ?_⟩
      subst hv
      rw [ec, cq, cc]
      exact L2 _ g h W3 rpqc rpqcs z5 ((k1.trans k2).trans k3) b1 (Nat.le_trans k1.size b3) (by omega) (made_grow k3 (made_grow k2 m1)) (made_grow k3 m2)
  · refine wpOp_does hoq gq (hq _ w) fun v W1 ⟨h, hv, b1, b2, k1, m1⟩ => ⟨k1, ?_⟩
    subst hv
    rw [eq]
    refine wpAnyH_all rq (by simp) fun j hj => ?_
    simp only [List.mem_cons, List.not_mem_nil, or_false] at hj
    rcases hj with rfl | rfl
    · refine wpOp_does hoc gc (dcall _ (xq a h) W1 k1) fun v W2 ⟨hv, k2⟩ => ⟨k1.trans k2, ?_⟩
      subst hv
      rw [ec, cq]
      refine wpAnyH_all rqc (by simp) fun j hj => ?_
      obtain rfl : j = _ := by simpa using hj
      refine wpOp_does hop gp (hp _ W2) fun v W3 ⟨g, hv, b3, b4, k3, m3⟩ => ⟨(k1.trans k2).trans k3, ?_⟩
      subst hv
      rw [ep, pq]
      have := k2.size
      exact L2 _ g h W3 rqcp rqcps z4 ((k1.trans k2).trans k3) (Nat.le_trans (k1.trans k2).size b3) b1 (by omega) m3 (made_grow k3 (made_grow k2 m1))
    · refine wpOp_does hop gp (hp _ W1) fun v W2 ⟨g, hv, b3, b4, k2, m2⟩ => ⟨k1.trans k2, ?_⟩
      subst hv
      rw [ep, pq]
      refine wpAnyH_all rqp (by simp) fun j hj => ?_
      obtain rfl : j = _ := by simpa using hj
      refine wpOp_does hoc gc (dcall _ (xpq g h) W2 (k1.trans k2)) fun v W3 ⟨hv, k3⟩ => ⟨(k1.trans k2).trans k3, ?_⟩
      subst hv
      rw [ec, cq, cc]
      exact L2 _ g h W3 rqpc rqpcs z6 ((k1.trans k2).trans k3) (Nat.le_trans k1.size b3) b1 (by omega) (made_grow k3 m2) (made_grow k3 (made_grow k2 m1))
end
section
variable {ops : Array Oper} {md : Region.Mode} {Q : Exit → Act → World → Prop}
def idObj (l : List UInt8) : Obj := .cells (u8s l).toArray 42 (0, 0)
theorem does_allocId {o : Oper} {a : Act} {w : World} (ho : o.op = .alloc 42) : Does Tryz.prog o a w (Made (idObj (zero8 32)) w) := by
  refine does_val (v := ptrV w.heap.size) (w' := w.alloc (.cells (u8s (zero8 32)).toArray 42)) ?_ ⟨_, rfl, Nat.le_refl _, by simp, grow_alloc _ _, heap_alloc_new _ _⟩
  unfold execOp
  simp only [ho, Sem.run_bind, Sem.run_pure, Result.andThen_ok, run_allocId]
  rfl
theorem does_storeId {o : Oper} {a : Act} {w : World} {x y : Operand} {g : Nat} {l m : List UInt8} (ho : o.op = .store 42 x y) (hx : a.eval x = ptrV g) (hy : a.eval y = idV l) (hl : l.length = 32) (hm : m.length = 32)
    (hg : w.heap[g]? = some (idObj m)) : Does Tryz.prog o a w (fun _ w' => Wrote g (idObj l) w w') := by
  have hrun : (execOp a.eval o).run Tryz.prog w = .ok .skip (w.setRow g (u8s l).toArray) := by
    unfold execOp
    have h1 := run_storeAt_agg (P := Tryz.prog) w g 0 42 42 (u8s l) (u8s m).toArray hg (szIdL hl) (by simp [u8s_length, hl, hm]) (u8s_one _)
    have e : ((u8s m).toArray.toList.take 0 ++ u8s l ++ (u8s m).toArray.toList.drop (0 + (u8s l).length)) = u8s l := by simp [u8s_length, hl, hm]
    rw [e] at h1
    simp only [ptrV] at hx
    simp only [ho, hx, hy, Sem.run_bind, Sem.run_pure, Result.andThen_ok]
    unfold idV
    simp only [h1, Result.andThen_ok]
  unfold Does
  rw [hrun]
  exact ⟨heap_setRow_same hg, grownBy_setRow _ _ _, fun B w0 hb hB => below_setRow' hb hB _⟩
end
end Go.Proofs.YtabkaflccaklhaaGreat
end
section
/- ref06.Publics, ref06.Recover: contracts. -/
namespace Go.Proofs.YtabkaflccaklhaaGreat
open Go.RowKit
open Go.Qk hiding rotr b4
set_option maxHeartbeats 1000000
set_option maxRecDepth 100000
theorem run_opLoadAt {o : Oper} {a : Act} {w : World} {x : Operand} {ad : Addr} {l : List UInt8} (ho : o.op = .load 42 x) (hx : a.eval x = .pointer (some ad)) (hc : ∀ j v, (u8s l)[j]? = some v → w.cell? (ad.add j) = some v) (hl : l.length = 32) : (execOp a.eval o).run Tryz.prog w = .ok (.value (idV l)) w := by
  unfold execOp
  simp only [ho, hx, Sem.run_bind, Sem.run_pure, Result.andThen_ok, run_loadIdAt hc hl]
theorem refPublics (sum : List UInt8) (hsum : sum.length = 32) (shown hidden : List (List UInt8)) (hsh : ∀ s ∈ shown, s.length = 32) (hhi : ∀ s ∈ hidden, s.length = 32) (A B : Option Addr) (n m c d : Nat) (hn : shown.length = n) (hm : hidden.length = m) (hnm : n = m) (hlim : n ≤ 256) (w : World) (hA : IdRow w A shown) (hB : IdRow w B hidden) :
    Calls Tryz.prog 117 #[idV sum, .slice A n c, .slice B m d] w (fun e w' => ∃ v, e = .returned v ∧ OwnIds 42 w.heap.size w' v (pubRow sum shown hidden) ∧ Below w.heap.size w w') := by
  subst hn
  subst hnm
  have HA := hid hA
  have HBR := hid hB
  have HS := hid hsum
  have HSH := hid hsh
  have HHI := hid hhi
  clear hA hB hsum hsh hhi
  go_enter Tryz.func117, Tryz.ntmps117
  have HB := hid (grow_refl w)
  apply wp_seq_k; intro _ _; apply wp_region_lit
  refine op_box (l := sum) rfl rfl rfl ?_
  intro g3 w1 hgl hgu hb hr
  have XL := hid (Nat.le_trans HB.out.size hgl)
  replace HB := hid (Grow.trans HB.out hb)
  replace HA := hid (HA.out.grow hb)
  replace HBR := hid (HBR.out.grow hb)
  have X := hid hr; have XU := hid hgu
  clear hr hgl hgu hb
  try simp only [Act.put, List.setIfInBounds_toArray, List.set_cons_zero, List.set_cons_succ]
  go_wp2_with fail
  have HO := hid (own_empty w1 w1.heap.size (Nat.le_refl _) (w1.alloc (.cells #[] 42)) (heap_alloc_new _ _))
  have HG := hid (show Grow w1 (w1.alloc (.cells #[] 42)) from (grow_refl _).alloc' _)
  go_loopg [7, 8] (shown.length + 1) (fun q v i wr => ∃ k : Nat, k ≤ shown.length ∧ q = shown.length + 1 - k ∧ i = .int .i64 k ∧ Hid (OwnIds 42 w1.heap.size wr v (bothRow (pubG sum shown hidden) k)) ∧ Hid (Grow w1 wr))
  case atStart => exact ⟨0, by omega, rfl, rfl, HO, HG⟩
  case round =>
    clear HO HG
    obtain ⟨k, hk, hq, rfl, HO, HG⟩ := hrel
    by_cases hlt : k < shown.length
    · have k0 : (0 : Int) ≤ (k : Int) := by omega
      have k1 : (k : Int) < (shown.length : Int) := by omega
      have HX := hid (grow_block X.out HG.out)
      obtain ⟨A', rfl, hcA⟩ := (HA.out.grow HG.out).at_ k hlt
      obtain ⟨B', rfl, hcB⟩ := (HBR.out.grow HG.out).at_ k (by omega)
      have HS1 := hid (getD_mem_len HSH.out hlt)
      have HS2 := hid (getD_mem_len HHI.out (show k < hidden.length by omega))
      have HNX := hid (bothRow_succ (pubG sum shown hidden) k)
      go_wp2_with fail
      refine wp_region_pickH (Grow { wr with drawn := wr.drawn + 1 }) [0, 1, 2, 3, 5, 6, 7, 8] 5 rfl (by kernel_rfl) rfl (by kernel_rfl) (grow_refl _) ?_
      (refine' pickH_val ?po1 ?pw1 ?pr1 ?pq1 ?ph1; (case' po1 => exact rfl); (case' pw1 => rfl); (case' pq1 => (exact fun _ _ _ h => h)); (case' pr1 => (intro w' hw'; go_simp; with_reducible rfl)); (case' ph1 => (try simp only [List.getElem_toArray, List.getElem_cons_zero, List.getElem_cons_succ, Act.put, List.setIfInBounds_toArray, List.set_cons_zero, List.set_cons_succ]))); (refine' pickH_val ?po2 ?pw2 ?pr2 ?pq2 ?ph2; (case' po2 => exact rfl); (case' pw2 => rfl); (case' pq2 => (exact fun _ _ _ h => h)); (case' pr2 => (intro w' hw'; go_simp; with_reducible rfl)); (case' ph2 => (try simp only [List.getElem_toArray, List.getElem_cons_zero, List.getElem_cons_succ, Act.put, List.setIfInBounds_toArray, List.set_cons_zero, List.set_cons_succ]))); (refine' pickH_val ?po3 ?pw3 ?pr3 ?pq3 ?ph3; (case' po3 => exact rfl); (case' pw3 => rfl); (case' pq3 => (exact fun _ _ _ h => h)); (case' pr3 => (intro w' hw'; go_simp; with_reducible rfl)); (case' ph3 => (try simp only [List.getElem_toArray, List.getElem_cons_zero, List.getElem_cons_succ, Act.put, List.setIfInBounds_toArray, List.set_cons_zero, List.set_cons_succ])))
      (refine' pickH_val (v := (idV (shown.getD k []))) ?po4 ?pw4 ?pr4 ?pq4 ?ph4; (case' po4 => exact rfl); (case' pw4 => rfl); (case' pq4 => (exact fun _ _ _ h => h)); (case' pr4 => (intro w' hw'; exact run_opLoadAt rfl rfl (fun j v hv => grow_cell (grow_cell (hcA j v hv) (grow_drawn wr)) hw') HS1.out)); (case' ph4 => (try simp only [List.getElem_toArray, List.getElem_cons_zero, List.getElem_cons_succ, Act.put, List.setIfInBounds_toArray, List.set_cons_zero, List.set_cons_succ])))
      (refine' pickH_val ?po5 ?pw5 ?pr5 ?pq5 ?ph5; (case' po5 => exact rfl); (case' pw5 => rfl); (case' pq5 => (exact fun _ _ _ h => h)); (case' pr5 => (intro w' hw'; go_simp; with_reducible rfl)); (case' ph5 => (try simp only [List.getElem_toArray, List.getElem_cons_zero, List.getElem_cons_succ, Act.put, List.setIfInBounds_toArray, List.set_cons_zero, List.set_cons_succ]))); (refine' pickH_val ?po6 ?pw6 ?pr6 ?pq6 ?ph6; (case' po6 => exact rfl); (case' pw6 => rfl); (case' pq6 => (exact fun _ _ _ h => h)); (case' pr6 => (intro w' hw'; go_simp; with_reducible rfl)); (case' ph6 => (try simp only [List.getElem_toArray, List.getElem_cons_zero, List.getElem_cons_succ, Act.put, List.setIfInBounds_toArray, List.set_cons_zero, List.set_cons_succ]))); (refine' pickH_val ?po7 ?pw7 ?pr7 ?pq7 ?ph7; (case' po7 => exact rfl); (case' pw7 => rfl); (case' pq7 => (exact fun _ _ _ h => h)); (case' pr7 => (intro w' hw'; go_simp; with_reducible rfl)); (case' ph7 => (try simp only [List.getElem_toArray, List.getElem_cons_zero, List.getElem_cons_succ, Act.put, List.setIfInBounds_toArray, List.set_cons_zero, List.set_cons_succ])))
      (refine' pickH_val (v := (idV (hidden.getD k []))) ?po8 ?pw8 ?pr8 ?pq8 ?ph8; (case' po8 => exact rfl); (case' pw8 => rfl); (case' pq8 => (exact fun _ _ _ h => h)); (case' pr8 => (intro w' hw'; exact run_opLoadAt rfl rfl (fun j v hv => grow_cell (grow_cell (hcB j v hv) (grow_drawn wr)) hw') HS2.out)); (case' ph8 => (try simp only [List.getElem_toArray, List.getElem_cons_zero, List.getElem_cons_succ, Act.put, List.setIfInBounds_toArray, List.set_cons_zero, List.set_cons_succ])))
      have hb := grow_drawn wr
      generalize ({ wr with drawn := wr.drawn + 1 } : World) = w6 at *
      have HSUM := hid (publicOf_length (shown.getD k []))
      refine pickH_nil ?_
      refine two_any (c := 4) (p := 9) (q := 10) (s := 11) (t := 12) (dc := 22) (dp := 9) (dq := 10) (X := idV (publicOf (shown.getD k []))) (Z := idObj (zero8 32)) (BX := idObj (publicOf (shown.getD k []))) (BY := idObj (hidden.getD k [])) (by kernel_rfl) rfl rfl rfl rfl rfl rfl rfl rfl rfl rfl rfl rfl rfl rfl rfl (by decide) (by decide) (by decide) (fun _ _ h => by cases h) (by kernel_rfl) (by kernel_rfl) ?call (fun _ _ => does_allocId rfl) (fun _ _ => does_allocId rfl) ?s2 ?s3 ?fin
      case s2 => exact fun g _ W h => does_storeId rfl rfl rfl HSUM.out rfl h
      case s3 => exact fun _ g W h => does_storeId rfl rfl rfl HS2.out rfl h
      case call =>
        intro W hW
        refine does_call (f := 79) (args := #[idV (shown.getD k [])]) ?hrun ?_
        case hrun => go_simp
        refine (refPublic (shown.getD k []) HS1.out W).mono ?_
        rintro e W' ⟨rfl, hb'⟩
        exact ⟨_, rfl, rfl, hb'⟩
      case fin =>
        intro g h W hW b1 b2 b3 b4 hne hX hY
        replace HO := hid (HO.out.grow (Grow.trans hb hW))
        replace HG := hid (Grow.trans HG.out (Grow.trans hb hW))
        have HX := hid (grow_block X.out HG.out)
        have HGX := hid hX
        have HGY := hid hY
        clear hW b1 b2 b3 b4 hX hY hb
        try simp only [Act.put, List.setIfInBounds_toArray, List.set_cons_zero, List.set_cons_succ]
        go_wp2_with (refine op_loadId rfl rfl rfl HX.out HS.out ?_)
        refine (refBit6 sum HS.out k (by omega) W).mono ?_
        rintro e w7 ⟨rfl, hb⟩
        replace HO := hid (HO.out.grow hb)
        replace HG := hid (Grow.trans HG.out hb)
        replace HGX := hid (grow_block HGX.out hb)
        replace HGY := hid (grow_block HGY.out hb)
        clear hb HX
        by_cases hbit : bitI sum k = 0
        · have E0 := hid (show pubG sum shown hidden k 0 = publicOf (shown.getD k []) from by unfold pubG; rw [if_pos (by rw [hbit]; rfl)])
          have E1 := hid (show pubG sum shown hidden k 1 = hidden.getD k [] from pubG_hid sum shown hidden HHI.out k 1 (by omega) (by rw [hbit]; decide))
          rw [E0.out, E1.out] at HNX
          rw [hbit]
          go_wp2_with (first | (refine op_loadId rfl rfl rfl HGX.out HSUM.out ?_) | (refine op_loadId rfl rfl rfl HGY.out HS2.out ?_) | (refine op_appIds2 (w0 := w1) (l1 := publicOf (shown.getD k [])) (l2 := hidden.getD k []) rfl rfl rfl rfl rfl rfl rfl (fun _ => rfl) (fun _ => rfl) HSUM.out HS2.out HO.out HG.out HG.out.size (by rw [bothRow_length]; omega) ?_))
          intro x5 v5 w8 ho hb _
          rw [show shown[k] = shown.getD k [] by simp [hlt], show hidden[k]'(by omega) = hidden.getD k [] by simp [show k < hidden.length by omega], ← HNX.out] at ho
          clear HO HG
          have HO := hid ho
          have HG := hid hb
          clear ho hb
          go_wp2
          go_roundg (shown.length + 1 - (k + 1))
          case rel => exact ⟨k + 1, by omega, rfl, by go_num, HO, HG⟩
          case measure => omega
        · have hbit1 : bitI sum k = 1 := by have := bitI_range sum k; omega
          have E0 := hid (show pubG sum shown hidden k 0 = hidden.getD k [] from pubG_hid sum shown hidden HHI.out k 0 (by omega) (by rw [hbit1]; decide))
          have E1 := hid (show pubG sum shown hidden k 1 = publicOf (shown.getD k []) from by unfold pubG; rw [if_pos (by rw [hbit1]; rfl)])
          rw [E0.out, E1.out] at HNX
          rw [hbit1]
          go_wp2_with (first | (refine op_loadId rfl rfl rfl HGX.out HSUM.out ?_) | (refine op_loadId rfl rfl rfl HGY.out HS2.out ?_) | (refine op_appIds2 (w0 := w1) (l1 := hidden.getD k []) (l2 := publicOf (shown.getD k [])) rfl rfl rfl rfl rfl rfl rfl (fun _ => rfl) (fun _ => rfl) HS2.out HSUM.out HO.out HG.out HG.out.size (by rw [bothRow_length]; omega) ?_))
          intro x5 v5 w8 ho hb _
          rw [show shown[k] = shown.getD k [] by simp [hlt], show hidden[k]'(by omega) = hidden.getD k [] by simp [show k < hidden.length by omega], ← HNX.out] at ho
          clear HO HG
          have HO := hid ho
          have HG := hid hb
          clear ho hb
          go_wp2
          go_roundg (shown.length + 1 - (k + 1))
          case rel => exact ⟨k + 1, by omega, rfl, by go_num, HO, HG⟩
          case measure => omega
    · obtain rfl : k = shown.length := by omega
      go_wp2_with fail
      go_ret
      exact ⟨_, rfl, HO.out.base HB.out.size, HB.out.trans HG.out⟩
end Go.Proofs.YtabkaflccaklhaaGreat
end
section
/- ref06.Recover: contract. -/
namespace Go.Proofs.YtabkaflccaklhaaGreat
open Go.RowKit
open Go.Qk hiding rotr b4
set_option maxHeartbeats 1000000
set_option maxRecDepth 100000
theorem refRecover (sum : List UInt8) (hsum : sum.length = 32) (shown hidden : List (List UInt8)) (hsh : ∀ s ∈ shown, s.length = 32) (hhi : ∀ s ∈ hidden, s.length = 32) (A B : Option Addr) (n m c d : Nat) (hn : shown.length = n) (hm : hidden.length = m) (hnm : n = m) (hlim : n ≤ 256) (w : World) (hA : IdRow w A shown) (hB : IdRow w B hidden) :
    Calls Tryz.prog 76 #[idV sum, .slice A n c, .slice B m d] w fun e w' => e = .returned (idV (chainOf ⟨#[108, 101, 97, 102]⟩ (pubRow sum shown hidden))) ∧ Below w.heap.size w w' := by
  have HA := hid hA
  have HBR := hid hB
  have HS := hid hsum
  have HTL := hid (chainOf_length ⟨#[108, 101, 97, 102]⟩ (pubRow sum shown hidden))
  have h32 : ∀ s ∈ pubRow sum shown hidden, s.length = 32 := bothRow_32 _ (pubG_length sum shown hidden hhi) _
  have hlr : (pubRow sum shown hidden).length ≤ 1000 := by rw [pubRow, bothRow_length]; omega
  have HTX := hid (textOf_one ⟨#[108, 101, 97, 102]⟩ (pubRow sum shown hidden).flatten (by decide) (by rw [flatten_len _ h32]; omega))
  have HF := hid (chain_leaf (pubRow sum shown hidden))
  have HLR := hid (show (pubRow sum shown hidden).length ≤ 1000000 by omega)
  have H32 := hid h32
  have HN := hid hn
  have HM := hid hm
  have HNM := hid hnm
  have HSH := hid hsh
  have HHI := hid hhi
  clear hA hB hsum h32 hlr hn hm hnm hsh hhi
  go_enter Tryz.func76, Tryz.ntmps76
  have HB := hid (grow_refl w)
  apply wp_seq_k; intro _ _; apply wp_region_lit
  refine op_box (l := sum) rfl rfl rfl ?_
  intro g3 w1 hgl hgu hb hr
  have XL := hid (Nat.le_trans HB.out.size hgl)
  replace HB := hid (Grow.trans HB.out hb)
  replace HA := hid (HA.out.grow hb)
  replace HBR := hid (HBR.out.grow hb)
  have X := hid hr; have XU := hid hgu
  clear hr hgl hgu hb
  try simp only [Act.put, List.setIfInBounds_toArray, List.set_cons_zero, List.set_cons_succ]
  refine op_alloc rfl rfl ?_
  intro gr w2 hgl hgu hb hr
  have HRL := hid (Nat.le_trans HB.out.size hgl)
  replace HB := hid (Grow.trans HB.out hb)
  replace HA := hid (HA.out.grow hb)
  replace HBR := hid (HBR.out.grow hb)
  replace X := hid (grow_block X.out hb)
  have HR := hid hr; have HRU := hid hgu
  clear hr hgl hgu hb
  try simp only [Act.put, List.setIfInBounds_toArray, List.set_cons_zero, List.set_cons_succ]
  go_wp2_with (first | (refine op_loadId rfl rfl rfl X.out (HS.out) ?_) |  fail)
  refine (refPublics sum HS.out shown hidden HSH.out HHI.out A B n m c d HN.out HM.out HNM.out hlim _ HA.out HBR.out).mono ?_
  rintro e w3 ⟨v, rfl, ho, hb⟩
  replace HB := hid (Grow.trans HB.out hb)
  replace HA := hid (HA.out.grow hb)
  replace HBR := hid (HBR.out.grow hb)
  replace X := hid (grow_block X.out hb)
  replace HR := hid (grow_block HR.out hb)
  clear hb
  obtain ⟨⟨A5, c5, rfl, hrow⟩, h32⟩ := ho.sl
  have HO := hid hrow
  clear ho hrow h32
  go_wp2_with fail
  refine (refAll A5 _ c5 (pubRow sum shown hidden) _ HO.out rfl H32.out HLR.out).mono ?_
  rintro e w4 ⟨rfl, hb⟩
  replace HB := hid (Grow.trans HB.out hb)
  replace HA := hid (HA.out.grow hb)
  replace HBR := hid (HBR.out.grow hb)
  replace X := hid (grow_block X.out hb)
  replace HR := hid (grow_block HR.out hb)
  replace HO := hid (HO.out.grow hb)
  clear hb
  go_wp2_with fail
  refine (refOf ⟨#[108, 101, 97, 102]⟩ _ _ _ [bs (pubRow sum shown hidden).flatten] _ (strRow_alloc _ [bs (pubRow sum shown hidden).flatten] _ (by simp)) rfl (by decide) HTX.out).mono ?_
  rintro e w5 ⟨rfl, hb⟩
  replace hb := Grow.trans (grow_alloc _ _) hb
  replace HB := hid (Grow.trans HB.out hb)
  replace HA := hid (HA.out.grow hb)
  replace HBR := hid (HBR.out.grow hb)
  replace X := hid (grow_block X.out hb)
  replace HR := hid (grow_block HR.out hb)
  replace HO := hid (HO.out.grow hb)
  clear hb
  rw [← HF.out]
  go_wp2_with (first | (refine op_loadId rfl rfl rfl X.out (HS.out) ?_) |  (refine op_buildId rfl rfl ?_) | (refine op_storeId (l := chainOf ⟨#[108, 101, 97, 102]⟩ (pubRow sum shown hidden)) rfl rfl rfl rfl rfl HR.out (by rfl) (HTL.out) ?_))
  intro wz hz _ hbz
  have HZ := hid hz; have HBZ := hid (hbz _ _ HB.out HRL.out)
  clear hz hbz
  go_wp2_with fail
  refine bodyPost_ret (ret_id rfl rfl HZ.out (HTL.out)) rfl ⟨?_, HBZ.out⟩
  rfl
end Go.Proofs.YtabkaflccaklhaaGreat
end
section
/- The law LamportRecovers: walk. -/
namespace Go.Proofs.YtabkaflccaklhaaGreat
open Go.RowKit
open Go.Qk hiding rotr b4
set_option maxHeartbeats 1000000
set_option maxRecDepth 100000
end Go.Proofs.YtabkaflccaklhaaGreat
end
