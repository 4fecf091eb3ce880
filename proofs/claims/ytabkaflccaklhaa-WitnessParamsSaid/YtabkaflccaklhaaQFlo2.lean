/- A drawn region in which some operations that hang on no world may come behind a write, and all that read come ahead of it. -/
import Derived.Test.YtabkaflccaklhaaQFlo
import Derived.Test.YtabkaflccaklhaaQLamp2
set_option linter.unusedSimpArgs false
set_option linter.unusedVariables false
namespace Go.Qk
open Go.RowKit
section
variable {P : Program} {ops : Array Oper} {md : Region.Mode} {Q : Exit → Act → World → Prop} {S : World → Prop}
def PickQ (P : Program) (ops : Array Oper) (Q : Exit → Act → World → Prop) (S : World → Prop) (ks1 ks2 ps : List Nat) : List Nat → Act → World → Prop
  | q :: qs, a, w => ∃ o v, ops[q]? = some o ∧ Yields P ops o v a ∧ (∀ c a w, Q (.panic c) (a.put o.dst v) w → Q (.panic c) a w) ∧ PickQ P ops Q S ks1 ks2 ps qs (a.put o.dst v) w
  | [], a, w => PickT P ops Q S ks1 ks2 ps a w
def okPickQ (md : Region.Mode) (ops : Array Oper) (ks ps : List Nat) : List Nat → Array Bool → Bool
  | q :: qs, l => Region.free md ops l q && (Region.ready md ops l).contains q && okPickQ md ops ks ps qs (l.setIfInBounds q true)
  | [], l => okPickT md ops ks ps l
theorem pickQ_any (hs : Region.noSelect ops = true) (ks1 ks2 ps : List Nat) (hn : ∀ p ∈ ps, ∀ j ∈ ks2, needsB md ops p ops.size j = true) : ∀ (qs : List Nat) (l : Array Bool) (a : Act) (w : World), okPickQ md ops (ks1 ++ ks2) ps qs l = true → LOK md ops l → S w → PickQ P ops Q S ks1 ks2 ps qs a w → wpAny P md ops Q (qs.length + (ps.length + (ks1.length + ks2.length))) l a w
  | [], l, a, w, hok, hL, hS, h => by
    have := wpAny_of_T (T := ks2) (S := S) _ _ _ _ (pickT_any (P := P) (Q := Q) (S := S) hs ks1 ks2 ps l a w hn hok hL hS h)
    simpa using this
  | q :: qs, l, a, w, hok, hL, hS, h => by
    obtain ⟨o, v, ho, hy, hq, hr⟩ := h
    simp only [okPickQ, Bool.and_eq_true] at hok
    have e : (q :: qs).length + (ps.length + (ks1.length + ks2.length)) = (qs.length + (ps.length + (ks1.length + ks2.length))) + 1 := by simp; omega
    rw [e]
    have hp : q ∈ Region.ready md ops l := by simpa using hok.1.2
    exact wpAny_take ho hs hok.1.1 hok.1.2 hq hy (pickQ_any hs ks1 ks2 ps hn qs _ _ w hok.2 (lok_set hL hp) hS hr)
theorem wp_region_floatQ {id : Nat} {a : Act} {w : World} {l : List Oper} (S : World → Prop) (qs ps ks1 ks2 : List Nat) (hm : P.follows .mixedOrders = true) (hs : Region.noSelect l.toArray = true) (hn : qs.length + (ps.length + (ks1.length + ks2.length)) = l.toArray.size)
    (hok : okPickQ .any l.toArray (ks1 ++ ks2) ps qs (Array.replicate l.toArray.size false) = true) (hneed : allNeed .any l.toArray ps ks2 = true)
    (h : ∀ w', Grow w w' → S w' ∧ PickQ P l.toArray Q S ks1 ks2 ps qs a w') : (Code.region id l.toArray true).wp P Q a w := by
  have h' := h { w with drawn := w.drawn + 1 } (Below.drew (Below.refl _ _))
  refine wp_region_any hm ?_
  have := pickQ_any (P := P) (Q := Q) (S := S) (md := .any) hs ks1 ks2 ps (fun p hp j hj => by
    have h1 := List.all_eq_true.1 hneed p hp
    exact List.all_eq_true.1 h1 j hj) qs (Array.replicate l.toArray.size false) a { w with drawn := w.drawn + 1 } hok (fun k ok hk hl => by rw [getD_replicate_false] at hl; cases hl) h'.1 h'.2
  rwa [hn] at this
theorem pickQ_val {ks1 ks2 ps qs : List Nat} {q : Nat} {a : Act} {w : World} {o : Oper} {v : Value} (ho : ops[q]? = some o) (hwant : Region.wanted o (yielded ops a.tmps) = true) (hrun : ∀ w, (execOp a.eval o).run P w = .ok (.value v) w)
    (hq : ∀ c a w, Q (.panic c) (a.put o.dst v) w → Q (.panic c) a w) (h : PickQ P ops Q S ks1 ks2 ps qs (a.put o.dst v) w) : PickQ P ops Q S ks1 ks2 ps (q :: qs) a w := ⟨o, v, ho, .inl ⟨hwant, hrun⟩, hq, h⟩
theorem pickQ_nil {ks1 ks2 ps : List Nat} {a : Act} {w : World} (h : PickT P ops Q S ks1 ks2 ps a w) : PickQ P ops Q S ks1 ks2 ps [] a w := h
end
end Go.Qk
