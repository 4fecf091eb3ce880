/- A region of open order: readers (ps) may be taken first where S gives their values; S is asked anew only behind what doesn't wait for all of them (ks1); the rest (ks2) is walked in its order. -/
import Derived.Test.YtabkaflccaklhaaGreatQBase1
import Derived.OrdersHeld
set_option linter.unusedSimpArgs false
set_option linter.unusedVariables false
namespace Go.Qk
open Go.RowKit
section
variable {P : Program} {ops : Array Oper} {md : Region.Mode} {Q : Exit → Act → World → Prop} {S : World → Prop} {T : List Nat}
def wpAnyT (P : Program) (md : Region.Mode) (ops : Array Oper) (Q : Exit → Act → World → Prop) (T : List Nat) (S : World → Prop) : Nat → Array Bool → Act → World → Prop
  | 0, listed, a, w => Region.ready md ops listed = [] ∧ Q .normal a w
  | fuel + 1, listed, a, w =>
    (Region.ready md ops listed = [] → Q .normal a w) ∧
    ∀ i ∈ Region.ready md ops listed, wpOp P ops Q i (fun a' w' => (i ∈ T ∨ S w') ∧ wpAnyT P md ops Q T S fuel (listed.setIfInBounds i true) a' w') a w
theorem wpAny_of_T : ∀ (fuel : Nat) (listed : Array Bool) (a : Act) (w : World), wpAnyT P md ops Q T S fuel listed a w → wpAny P md ops Q fuel listed a w
  | 0, _, _, _, h => h
  | fuel + 1, _, _, _, h => ⟨h.1, fun i hi => wpOp_mono (fun a' w' h' => wpAny_of_T fuel _ a' w' h'.2) (h.2 i hi)⟩
/-- What has come up had its forerunners behind it. -/
def LOK (md : Region.Mode) (ops : Array Oper) (listed : Array Bool) : Prop :=
  ∀ k ok, ops[k]? = some ok → listed.getD k false = true → ∀ e ∈ ok.after, Region.binds md e = true → listed.getD e.on false = true
def needsB (md : Region.Mode) (ops : Array Oper) (p : Nat) : Nat → Nat → Bool
  | 0, _ => false
  | f + 1, j => match ops[j]? with
    | some oj => oj.after.any fun e => Region.binds md e && (e.on == p || needsB md ops p f e.on)
    | none => false
theorem needs_listed {p : Nat} {listed : Array Bool} (hl : LOK md ops listed) : ∀ (f j : Nat), needsB md ops p f j = true → (∀ oj, ops[j]? = some oj → ∀ e ∈ oj.after, Region.binds md e = true → listed.getD e.on false = true) → listed.getD p false = true
  | 0, _, h, _ => by simp [needsB] at h
  | f + 1, j, h, hj => by
    unfold needsB at h
    split at h
    · rename_i oj hoj
      obtain ⟨i, hi, hb⟩ := Array.any_eq_true.1 h
      simp only [Bool.and_eq_true, Bool.or_eq_true, beq_iff_eq] at hb
      have hin := hj oj hoj _ (Array.getElem_mem hi) hb.1
      rcases hb.2 with he | he
      · rw [he] at hin; exact hin
      · exact needs_listed hl f _ he (fun ok hok e' he' hb' => hl _ ok hok hin e' he' hb')
    · cases h
theorem lok_set {j : Nat} {listed : Array Bool} (hl : LOK md ops listed) (hj : j ∈ Region.ready md ops listed) : LOK md ops (listed.setIfInBounds j true) := by
  intro k ok hk hlk e he hb
  obtain ⟨_, oj, hoj, hall⟩ := mem_ready.1 hj
  by_cases hkj : j = k
  · subst hkj
    rw [hoj] at hk; cases hk
    exact getD_set_true (hall e he hb)
  · rw [getD_set_ne false hkj] at hlk
    exact getD_set_true (hl k ok hk hlk e he hb)
theorem wpAnyT_first {i : Nat} {oi : Oper} {v : Value} (hi : ops[i]? = some oi) (hsel : ∀ (j : Nat) (o : Oper) cs b, ops[j]? = some o → o.op ≠ .select cs b)
    (hQ : ∀ c a w, Q (.panic c) (a.put oi.dst v) w → Q (.panic c) a w) (hT : ∀ j ∈ T, needsB md ops i ops.size j = true) :
    ∀ (fuel : Nat) (listed : Array Bool) (a : Act) (w : World),
      (∀ j oj, ops[j]? = some oj → j ≠ i → listed.getD j true = false → (∀ e ∈ oj.after, Region.binds md e = true → e.on ≠ i) → oi.apart ops oj = true) →
      i ∈ Region.ready md ops listed → YieldsIf P ops S oi v a → S w → LOK md ops listed →
      wpAnyT P md ops Q T S fuel (listed.setIfInBounds i true) (a.put oi.dst v) w → wpAnyT P md ops Q T S (fuel + 1) listed a w := by
  intro fuel
  induction fuel with
  | zero =>
    intro listed a w _ hr hy hS hL H
    refine ⟨fun h => (by rw [h] at hr; cases hr), fun j hj => ?_⟩
    by_cases hji : j = i
    · subst hji; exact hy.wpOp hi hS ⟨.inr hS, H⟩
    · have := ready_mono hj hji
      rw [H.1] at this
      cases this
  | succ fuel ih =>
    intro listed a w hfree hr hy hS hL H
    refine ⟨fun h => (by rw [h] at hr; cases hr), fun j hj => ?_⟩
    by_cases hji : j = i
    · subst hji; exact hy.wpOp hi hS ⟨.inr hS, H⟩
    · have h1 := H.2 j (ready_mono hj hji)
      obtain ⟨hjun, oj, hoj, hall⟩ := mem_ready.1 hj
      have hnl : listed.getD i false = false := by
        have h0 := (mem_ready.1 hr).1
        rcases Nat.lt_or_ge i listed.size with h' | h'
        · simp [h'] at h0 ⊢; exact h0
        · simp [Array.getElem?_eq_none h']
      have hnot : ∀ e ∈ oj.after, Region.binds md e = true → e.on ≠ i := fun e he hb heq => by
        have h1 := hall e he hb
        rw [heq, hnl] at h1; cases h1
      have hnT : j ∉ T := fun hjT => by
        have := needs_listed hL _ _ (hT j hjT) (fun oj' h' e he hb => by rw [hoj] at h'; cases h'; exact hall e he hb)
        rw [hnl] at this; cases this
      have h2 := wpOp_putIf hoj (hfree j oj hoj hji hjun hnot) (fun cs b => hsel i oi cs b hi) (fun cs b => hsel j oj cs b hoj) hQ hy h1
      have hfree' : ∀ k ok, ops[k]? = some ok → k ≠ i → (listed.setIfInBounds j true).getD k true = false →
          (∀ e ∈ ok.after, Region.binds md e = true → e.on ≠ i) → oi.apart ops ok = true := fun k ok hk hki hun hno => by
        refine hfree k ok hk hki ?_ hno
        by_cases hjk : j = k
        · subst hjk; exact hjun
        · rw [getD_set_ne true hjk] at hun; exact hun
      refine wpOp_mono (fun a' w' h3 => ?_) h2
      have hS' : S w' := h3.2.1.resolve_left hnT
      refine ⟨.inr hS', ih (listed.setIfInBounds j true) a' w' hfree' (ready_mono hr (Ne.symm hji)) h3.1 hS' (lok_set hL hj) ?_⟩
      rw [Array.setIfInBounds_comm _ _ hji]
      exact h3.2.2
/-- One behind the other: behind each of ks1 S is asked; then the list. -/
def SeqT (P : Program) (ops : Array Oper) (Q : Exit → Act → World → Prop) (S : World → Prop) (ks2 : List Nat) : List Nat → Act → World → Prop
  | k :: ks, a, w => wpOp P ops Q k (fun a' w' => S w' ∧ SeqT P ops Q S ks2 ks a' w') a w
  | [], a, w => wpList P ops Q (ks2.filterMap (ops[·]?)) a w
def okSeqT (md : Region.Mode) (ops : Array Oper) : List Nat → Array Bool → Bool
  | k :: ks, listed => decide (Region.ready md ops listed = [k]) && okSeqT md ops ks (listed.setIfInBounds k true)
  | [], listed => (Region.ready md ops listed).isEmpty
theorem seqT_list : ∀ (ks : List Nat) (listed : Array Bool) (a : Act) (w : World), (∀ k ∈ ks, k ∈ T) → okSeqT md ops ks listed = true → wpList P ops Q (ks.filterMap (ops[·]?)) a w → wpAnyT P md ops Q T S ks.length listed a w
  | [], listed, a, w, _, hok, h => ⟨by simpa [okSeqT] using hok, h⟩
  | k :: ks, listed, a, w, hT, hok, h => by
    simp only [okSeqT, Bool.and_eq_true, decide_eq_true_eq] at hok
    have hk : k ∈ Region.ready md ops listed := by rw [hok.1]; exact List.mem_cons_self
    obtain ⟨_, o, ho, _⟩ := mem_ready.1 hk
    have hf : (k :: ks).filterMap (ops[·]?) = o :: ks.filterMap (ops[·]?) := by rw [List.filterMap_cons, ho]
    rw [hf] at h
    refine ⟨fun h1 => (by rw [hok.1] at h1; cases h1), fun i hi => ?_⟩
    rw [hok.1] at hi
    obtain rfl : i = k := by simpa using hi
    have hw : wpOp P ops Q i (wpList P ops Q (ks.filterMap (ops[·]?))) a w := by unfold wpOp; simp only [ho]; exact h
    exact wpOp_mono (fun a' w' h' => ⟨.inl (hT _ List.mem_cons_self), seqT_list ks _ a' w' (fun k hk => hT k (List.mem_cons_of_mem _ hk)) hok.2 h'⟩) hw
theorem seqT_any (ks2 : List Nat) (hT : ∀ k ∈ ks2, k ∈ T) : ∀ (ks : List Nat) (listed : Array Bool) (a : Act) (w : World), okSeqT md ops (ks ++ ks2) listed = true → SeqT P ops Q S ks2 ks a w → wpAnyT P md ops Q T S (ks.length + ks2.length) listed a w
  | [], listed, a, w, hok, h => by
    have := seqT_list (P := P) (Q := Q) (S := S) ks2 listed a w hT hok h
    simpa using this
  | k :: ks, listed, a, w, hok, h => by
    simp only [List.cons_append, okSeqT, Bool.and_eq_true, decide_eq_true_eq] at hok
    have e : (k :: ks).length + ks2.length = (ks.length + ks2.length) + 1 := by simp; omega
    rw [e]
    refine ⟨fun h1 => (by rw [hok.1] at h1; cases h1), fun i hi => ?_⟩
    rw [hok.1] at hi
    obtain rfl : i = k := by simpa using hi
    exact wpOp_mono (fun a' w' h' => ⟨.inr h'.1, seqT_any ks2 hT ks _ a' w' hok.2 h'.2⟩) h
/-- The readers, in a row that is given. -/
def PickT (P : Program) (ops : Array Oper) (Q : Exit → Act → World → Prop) (S : World → Prop) (ks1 ks2 : List Nat) : List Nat → Act → World → Prop
  | p :: ps, a, w => ∃ o v, ops[p]? = some o ∧ YieldsIf P ops S o v a ∧ (∀ c a w, Q (.panic c) (a.put o.dst v) w → Q (.panic c) a w) ∧ PickT P ops Q S ks1 ks2 ps (a.put o.dst v) w
  | [], a, w => SeqT P ops Q S ks2 ks1 a w
def okPickT (md : Region.Mode) (ops : Array Oper) (ks : List Nat) : List Nat → Array Bool → Bool
  | p :: ps, l => Region.free md ops l p && (Region.ready md ops l).contains p && okPickT md ops ks ps (l.setIfInBounds p true)
  | [], l => okSeqT md ops ks l
theorem pickT_any (hs : Region.noSelect ops = true) (ks1 ks2 : List Nat) : ∀ (ps : List Nat) (l : Array Bool) (a : Act) (w : World), (∀ p ∈ ps, ∀ j ∈ ks2, needsB md ops p ops.size j = true) → okPickT md ops (ks1 ++ ks2) ps l = true → LOK md ops l → S w → PickT P ops Q S ks1 ks2 ps a w → wpAnyT P md ops Q ks2 S (ps.length + (ks1.length + ks2.length)) l a w
  | [], l, a, w, _, hok, _, _, h => by
    have := seqT_any (P := P) (Q := Q) (S := S) ks2 (fun k hk => hk) ks1 l a w hok h
    simpa using this
  | p :: ps, l, a, w, hn, hok, hL, hS, h => by
    obtain ⟨o, v, ho, hy, hq, hr⟩ := h
    simp only [okPickT, Bool.and_eq_true] at hok
    have e : (p :: ps).length + (ks1.length + ks2.length) = (ps.length + (ks1.length + ks2.length)) + 1 := by simp; omega
    rw [e]
    have hp : p ∈ Region.ready md ops l := by simpa using hok.1.2
    exact wpAnyT_first ho (Region.noSelect_spec hs) hq (fun j hj => hn p List.mem_cons_self j hj) _ l a w (Region.free_spec ho hok.1.1) hp hy hS hL
      (pickT_any hs ks1 ks2 ps _ _ w (fun q hq => hn q (List.mem_cons_of_mem _ hq)) hok.2 (lok_set hL hp) hS hr)
def allNeed (md : Region.Mode) (ops : Array Oper) (ps ks2 : List Nat) : Bool := ps.all fun p => ks2.all fun j => needsB md ops p ops.size j
theorem wp_region_float {id : Nat} {a : Act} {w : World} {l : List Oper} (S : World → Prop) (ps ks1 ks2 : List Nat) (hm : P.follows .mixedOrders = true) (hs : Region.noSelect l.toArray = true) (hn : ps.length + (ks1.length + ks2.length) = l.toArray.size)
    (hok : okPickT .any l.toArray (ks1 ++ ks2) ps (Array.replicate l.toArray.size false) = true) (hneed : allNeed .any l.toArray ps ks2 = true)
    (hS : S { w with drawn := w.drawn + 1 }) (h : PickT P l.toArray Q S ks1 ks2 ps a { w with drawn := w.drawn + 1 }) : (Code.region id l.toArray true).wp P Q a w := by
  refine wp_region_any hm (wpAny_of_T (T := ks2) (S := S) _ _ _ _ ?_)
  have := pickT_any (P := P) (Q := Q) (S := S) (md := .any) hs ks1 ks2 ps (Array.replicate l.toArray.size false) a { w with drawn := w.drawn + 1 }
    (fun p hp j hj => by
      have h1 := List.all_eq_true.1 hneed p hp
      exact List.all_eq_true.1 h1 j hj) hok (fun k ok hk hl => by
        simp [Array.getElem?_replicate] at hl
        split at hl <;> simp at hl) hS h
  rw [hn] at this
  exact this
theorem wp_region_floatG {id : Nat} {a : Act} {w : World} {l : List Oper} (S : World → Prop) (ps ks1 ks2 : List Nat) (hm : P.follows .mixedOrders = true) (hs : Region.noSelect l.toArray = true) (hn : ps.length + (ks1.length + ks2.length) = l.toArray.size)
    (hok : okPickT .any l.toArray (ks1 ++ ks2) ps (Array.replicate l.toArray.size false) = true) (hneed : allNeed .any l.toArray ps ks2 = true)
    (h : ∀ w', Grow w w' → S w' ∧ PickT P l.toArray Q S ks1 ks2 ps a w') : (Code.region id l.toArray true).wp P Q a w :=
  have h' := h { w with drawn := w.drawn + 1 } (Below.drew (Below.refl _ _))
  wp_region_float S ps ks1 ks2 hm hs hn hok hneed h'.1 h'.2
theorem pickT_val {ks1 ks2 ps : List Nat} {p : Nat} {a : Act} {w : World} {o : Oper} {v : Value} (ho : ops[p]? = some o) (hwant : Region.wanted o (yielded ops a.tmps) = true) (hrun : ∀ w, S w → (execOp a.eval o).run P w = .ok (.value v) w)
    (hq : ∀ c a w, Q (.panic c) (a.put o.dst v) w → Q (.panic c) a w) (h : PickT P ops Q S ks1 ks2 ps (a.put o.dst v) w) : PickT P ops Q S ks1 ks2 (p :: ps) a w := ⟨o, v, ho, .inl ⟨hwant, hrun⟩, hq, h⟩
theorem pickT_skip {ks1 ks2 ps : List Nat} {p : Nat} {a : Act} {w : World} {o : Oper} (ho : ops[p]? = some o) (hwant : Region.wanted o (yielded ops a.tmps) = false)
    (hq : ∀ c a w, Q (.panic c) (a.put o.dst undef) w → Q (.panic c) a w) (h : PickT P ops Q S ks1 ks2 ps (a.put o.dst undef) w) : PickT P ops Q S ks1 ks2 (p :: ps) a w := ⟨o, undef, ho, .inr ⟨hwant, rfl⟩, hq, h⟩
theorem pickT_nil {ks1 ks2 : List Nat} {a : Act} {w : World} (h : SeqT P ops Q S ks2 ks1 a w) : PickT P ops Q S ks1 ks2 [] a w := h
theorem seqT_nil {ks2 : List Nat} {a : Act} {w : World} (h : wpList P ops Q (ks2.filterMap (ops[·]?)) a w) : SeqT P ops Q S ks2 [] a w := h
theorem seqT_does {ks2 ks : List Nat} {k : Nat} {a : Act} {w : World} {o : Oper} {V : Value → World → Prop} (ho : ops[k]? = some o) (hwant : Region.wanted o (yielded ops a.tmps) = true) (hd : Does P o a w V)
    (h : ∀ v w', V v w' → S w' ∧ SeqT P ops Q S ks2 ks (a.put o.dst v) w') : SeqT P ops Q S ks2 (k :: ks) a w := by
  show wpOp P ops Q k _ a w
  unfold wpOp
  simp only [ho, hwant, if_true]
  exact .inl (hd.wp h)
end
end Go.Qk
