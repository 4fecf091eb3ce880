/- A drawn region walked by a script: what only reads (true) comes as soon as it may; of what writes or calls (false) one comes at a time, behind each S. -/
import Derived.Test.YtabkaflccaklhaaQFlo
set_option linter.unusedSimpArgs false
set_option linter.unusedVariables false
namespace Go.Qk
open Go.RowKit
section
variable {P : Program} {ops : Array Oper} {md : Region.Mode} {Q : Exit → Act → World → Prop} {S : World → Prop}
def ChS (P : Program) (ops : Array Oper) (Q : Exit → Act → World → Prop) (S : World → Prop) : List (Nat × Bool) → Act → World → Prop
  | (p, true) :: r, a, w => ∃ o v, ops[p]? = some o ∧ YieldsIf P ops S o v a ∧ (∀ c a w, Q (.panic c) (a.put o.dst v) w → Q (.panic c) a w) ∧ ChS P ops Q S r (a.put o.dst v) w
  | (k, false) :: r, a, w => wpOp P ops Q k (fun a' w' => S w' ∧ ChS P ops Q S r a' w') a w
  | [], a, w => Q .normal a w
def okCh (md : Region.Mode) (ops : Array Oper) : List (Nat × Bool) → Array Bool → Bool
  | (p, true) :: r, l => Region.free md ops l p && (Region.ready md ops l).contains p && okCh md ops r (l.setIfInBounds p true)
  | (k, false) :: r, l => decide (Region.ready md ops l = [k]) && okCh md ops r (l.setIfInBounds k true)
  | [], l => (Region.ready md ops l).isEmpty
theorem chS_any (hs : Region.noSelect ops = true) : ∀ (r : List (Nat × Bool)) (l : Array Bool) (a : Act) (w : World), okCh md ops r l = true → S w → ChS P ops Q S r a w → wpAnyH P md ops Q S r.length l a w
  | [], l, a, w, hok, _, h => ⟨by simpa [okCh] using hok, h⟩
  | (p, true) :: r, l, a, w, hok, hS, h => by
    obtain ⟨o, v, ho, hy, hq, hr⟩ := h
    simp only [okCh, Bool.and_eq_true] at hok
    exact wpAnyH_take ho hs hok.1.1 hok.1.2 hq hy hS (chS_any hs r _ _ w hok.2 hS hr)
  | (k, false) :: r, l, a, w, hok, hS, h => by
    simp only [okCh, Bool.and_eq_true, decide_eq_true_eq] at hok
    refine wpAnyH_all hok.1 (by simp) fun i hi => ?_
    obtain rfl : i = k := by simpa using hi
    exact wpOp_mono (fun a' w' h' => ⟨h'.1, chS_any hs r _ a' w' hok.2 h'.1 h'.2⟩) h
theorem wp_region_chain {id : Nat} {a : Act} {w : World} {l : List Oper} (S : World → Prop) (r : List (Nat × Bool)) (hm : P.follows .mixedOrders = true) (hs : Region.noSelect l.toArray = true) (hn : r.length = l.toArray.size)
    (hok : okCh .any l.toArray r (Array.replicate l.toArray.size false) = true) (h : ∀ w', Grow w w' → S w' ∧ ChS P l.toArray Q S r a w') : (Code.region id l.toArray true).wp P Q a w := by
  have h' := h { w with drawn := w.drawn + 1 } (Below.drew (Below.refl _ _))
  refine wp_region_held (S := S) hm ?_
  have := chS_any (P := P) (Q := Q) (md := .any) hs r _ a _ hok h'.1 h'.2
  rwa [hn] at this
theorem ch_val {r : List (Nat × Bool)} {p : Nat} {a : Act} {w : World} {o : Oper} {v : Value} (ho : ops[p]? = some o) (hwant : Region.wanted o (yielded ops a.tmps) = true) (hrun : ∀ w, S w → (execOp a.eval o).run P w = .ok (.value v) w)
    (hq : ∀ c a w, Q (.panic c) (a.put o.dst v) w → Q (.panic c) a w) (h : ChS P ops Q S r (a.put o.dst v) w) : ChS P ops Q S ((p, true) :: r) a w := ⟨o, v, ho, .inl ⟨hwant, hrun⟩, hq, h⟩
theorem ch_skip {r : List (Nat × Bool)} {p : Nat} {a : Act} {w : World} {o : Oper} (ho : ops[p]? = some o) (hwant : Region.wanted o (yielded ops a.tmps) = false)
    (hq : ∀ c a w, Q (.panic c) (a.put o.dst undef) w → Q (.panic c) a w) (h : ChS P ops Q S r (a.put o.dst undef) w) : ChS P ops Q S ((p, true) :: r) a w := ⟨o, undef, ho, .inr ⟨hwant, rfl⟩, hq, h⟩
theorem ch_none {r : List (Nat × Bool)} {k : Nat} {a : Act} {w : World} {o : Oper} (ho : ops[k]? = some o) (hwant : Region.wanted o (yielded ops a.tmps) = false)
    (h : S w ∧ ChS P ops Q S r (a.put o.dst undef) w) : ChS P ops Q S ((k, false) :: r) a w := by
  show wpOp P ops Q k _ a w
  unfold wpOp
  simp only [ho, hwant, Bool.false_eq_true, if_false]
  exact h
theorem ch_does {r : List (Nat × Bool)} {k : Nat} {a : Act} {w : World} {o : Oper} {V : Value → World → Prop} (ho : ops[k]? = some o) (hwant : Region.wanted o (yielded ops a.tmps) = true) (hd : Does P o a w V)
    (h : ∀ v w', V v w' → S w' ∧ ChS P ops Q S r (a.put o.dst v) w') : ChS P ops Q S ((k, false) :: r) a w := by
  show wpOp P ops Q k _ a w
  unfold wpOp
  simp only [ho, hwant, if_true]
  exact .inl (hd.wp h)
/-- A call in a chain: its result is known. -/
theorem ch_call {r : List (Nat × Bool)} {k : Nat} {a : Act} {w : World} {o : Oper} {f : FuncId} {args : Array Value} {E : Ending → World → Prop} (ho : ops[k]? = some o) (hwant : Region.wanted o (yielded ops a.tmps) = true) (hrun : (execOp a.eval o).run P w = .ok (.enter f args) w) (hc : Calls P f args w E)
    (h : ∀ e w', E e w' → ∃ v, e = .returned v ∧ S w' ∧ ChS P ops Q S r (a.put o.dst v) w') : ChS P ops Q S ((k, false) :: r) a w :=
  ch_does (V := fun v w' => S w' ∧ ChS P ops Q S r (a.put o.dst v) w') ho hwant (does_call hrun (hc.mono fun e w' he => by
    obtain ⟨v, rfl, h1, h2⟩ := h e w' he
    exact ⟨v, rfl, h1, h2⟩)) (fun v w' h => h)
theorem ch_nil {a : Act} {w : World} (h : Q .normal a w) : ChS P ops Q S [] a w := h
end
end Go.Qk
