/- A region of open order: operations that hang on no world come first, in a row that is given; the others come one behind the other. -/
import Derived.Test.YtkibibgbmkejjaaQReg
set_option linter.unusedSimpArgs false
set_option linter.unusedVariables false
namespace Go.Qk
open Go.RowKit
section
variable {P : Program} {ops : Array Oper} {md : Region.Mode} {Q : Exit → Act → World → Prop}
def apartB (md : Region.Mode) (ops : Array Oper) (p : Nat) (listed : Array Bool) : Bool :=
  (List.range ops.size).all fun j => j == p || listed.getD j true || (match ops[p]?, ops[j]? with
    | some op, some oj => (oj.after.any fun e => Region.binds md e && e.on == p) || op.apart ops oj
    | _, _ => false)
def okSeq (md : Region.Mode) (ops : Array Oper) : List Nat → Array Bool → Bool
  | k :: ks, listed => decide (Region.ready md ops listed = [k]) && okSeq md ops ks (listed.setIfInBounds k true)
  | [], listed => (Region.ready md ops listed).isEmpty
def okPick (md : Region.Mode) (ops : Array Oper) (ks : List Nat) : List Nat → Array Bool → Bool
  | p :: ps, listed => (Region.ready md ops listed).contains p && apartB md ops p listed && okPick md ops ks ps (listed.setIfInBounds p true)
  | [], listed => okSeq md ops ks listed
/-- What is to be shown. -/
def Pick (P : Program) (ops : Array Oper) (Q : Exit → Act → World → Prop) (ks : List Nat) : List Nat → Act → World → Prop
  | p :: ps, a, w => ∃ o v, ops[p]? = some o ∧ Yields P ops o v a ∧ (∀ c a w, Q (.panic c) (a.put o.dst v) w → Q (.panic c) a w) ∧ Pick P ops Q ks ps (a.put o.dst v) w
  | [], a, w => wpList P ops Q (ks.filterMap (ops[·]?)) a w
theorem pick_seq : ∀ (ks : List Nat) (listed : Array Bool) (a : Act) (w : World), listed.size = ops.size → okSeq md ops ks listed = true → wpList P ops Q (ks.filterMap (ops[·]?)) a w → wpAny P md ops Q ks.length listed a w
  | [], listed, a, w, _, hok, h => ⟨by simpa [okSeq] using hok, h⟩
  | k :: ks, listed, a, w, hsz, hok, h => by
    simp only [okSeq, Bool.and_eq_true, decide_eq_true_eq] at hok
    have hk : k ∈ Region.ready md ops listed := by rw [hok.1]; exact List.mem_cons_self
    obtain ⟨_, o, ho, _⟩ := mem_ready.1 hk
    have hf : (k :: ks).filterMap (ops[·]?) = o :: ks.filterMap (ops[·]?) := by rw [List.filterMap_cons, ho]
    rw [hf] at h
    refine ⟨fun h1 => (by rw [hok.1] at h1; cases h1), fun i hi => ?_⟩
    rw [hok.1] at hi
    obtain rfl : i = k := by simpa using hi
    have hw : wpOp P ops Q i (wpList P ops Q (ks.filterMap (ops[·]?))) a w := by unfold wpOp; simp only [ho]; exact h
    exact wpOp_mono (fun a' w' h' => pick_seq ks _ a' w' (by simpa using hsz) hok.2 h') hw
theorem pick_any (hns : Region.noSelect ops = true) : ∀ (ps ks : List Nat) (listed : Array Bool) (a : Act) (w : World), listed.size = ops.size → okPick md ops ks ps listed = true → Pick P ops Q ks ps a w → wpAny P md ops Q (ps.length + ks.length) listed a w
  | [], ks, listed, a, w, hsz, hok, h => by
    have := pick_seq (P := P) (Q := Q) ks listed a w hsz hok h
    simpa using this
  | p :: ps, ks, listed, a, w, hsz, hok, h => by
    obtain ⟨o, v, ho, hy, hq, hr⟩ := h
    simp only [okPick, Bool.and_eq_true] at hok
    obtain ⟨⟨h1, h2⟩, h3⟩ := hok
    have ih := pick_any hns ps ks (listed.setIfInBounds p true) (a.put o.dst v) w (by simpa using hsz) h3 hr
    have e : (p :: ps).length + ks.length = (ps.length + ks.length) + 1 := by simp; omega
    rw [e]
    refine wpAny_first (md := md) ho (fun j o cs b hj => Region.noSelect_spec hns j o cs b hj) hq _ listed a w ?_ (by simpa using h1) hy ih
    intro j oj hj hne hl hnw
    have hjs : j < ops.size := (Array.getElem?_eq_some_iff.1 hj).1
    have h4 := List.all_eq_true.1 h2 j (List.mem_range.2 hjs)
    rw [ho, hj] at h4
    simp only [Bool.or_eq_true, beq_iff_eq, hne, hl, Bool.false_eq_true, false_or, or_false] at h4
    rcases h4 with h4 | h4
    · obtain ⟨i, hi, hb⟩ := Array.any_eq_true.1 h4
      simp only [Bool.and_eq_true, beq_iff_eq] at hb
      exact absurd hb.2 (hnw _ (Array.getElem_mem hi) hb.1)
    · exact h4
theorem wp_region_pick {id : Nat} {a : Act} {w : World} {l : List Oper} (ps ks : List Nat) (hm : P.follows .mixedOrders = true) (hns : Region.noSelect l.toArray = true) (hlen : ps.length + ks.length = l.toArray.size) (hok : okPick .any l.toArray ks ps (Array.replicate l.toArray.size false) = true)
    (h : Pick P l.toArray Q ks ps a { w with drawn := w.drawn + 1 }) : (Code.region id l.toArray true).wp P Q a w := by
  refine wp_region_any hm ?_
  have := pick_any (P := P) (md := .any) (Q := Q) hns ps ks (Array.replicate l.toArray.size false) a { w with drawn := w.drawn + 1 } (by simp) hok h
  rw [hlen] at this
  exact this
theorem pick_val {ps ks : List Nat} {p : Nat} {a : Act} {w : World} {o : Oper} {v : Value} (ho : ops[p]? = some o) (hwant : Region.wanted o (yielded ops a.tmps) = true) (hrun : ∀ w, (execOp a.eval o).run P w = .ok (.value v) w)
    (hq : ∀ c a w, Q (.panic c) (a.put o.dst v) w → Q (.panic c) a w) (h : Pick P ops Q ks ps (a.put o.dst v) w) : Pick P ops Q ks (p :: ps) a w := ⟨o, v, ho, .inl ⟨hwant, hrun⟩, hq, h⟩
theorem pick_nil {ks : List Nat} {a : Act} {w : World} (h : wpList P ops Q (ks.filterMap (ops[·]?)) a w) : Pick P ops Q ks [] a w := h
theorem grow_drawn (w : World) : Grow w { w with drawn := w.drawn + 1 } := Below.drew (Below.refl _ _)
end
end Go.Qk
