/- A drawn region in which one operation out of a tuple may come behind the tail's beginning. -/
import Derived.Test.YtabkaflccaklhaaGreatQBase1
set_option linter.unusedSimpArgs false
set_option linter.unusedVariables false
namespace Go.Qk
open Go.RowKit
set_option maxHeartbeats 1000000
section
variable {P : Program} {ops : Array Oper} {md : Region.Mode} {W : World} {Qe : (Tmp → World → Prop) → Act → Prop}
def sinkL (md : Region.Mode) (ops : Array Oper) (n p : Nat) : Bool :=
  (List.range n).all fun i => i == p || (List.range (n + 1)).any fun j => decide (i < j) && (!(j == p) && Region.waitsFor md ops j i)
/-- What may be late: it takes a part out of a tuple. -/
def lateKind (o : Oper) : Bool := match o.op with | .extract _ _ => true | _ => false
def lateB (md : Region.Mode) (ops : Array Oper) (p : Nat) : Bool :=
  match ops[p]? with
  | some op => (lateKind op && op.guard.isNone) && (List.range ops.size).all fun j => j == p || (op.after.any (fun e => Region.binds md e && e.on == j)) || match ops[j]? with
    | some oj => oj.after.any (fun e => Region.binds md e && e.on == p) || op.apart ops oj
    | none => true
  | none => false
def okL (md : Region.Mode) (ops : Array Oper) (n g p : Nat) : Bool :=
  Region.noSelect ops && decide (n + g = ops.size) && sinkL md ops n p && Region.chainB md ops n &&
  ((List.range n).all fun j => match ops[j]? with
    | some oj => oj.after.all (fun e => !Region.binds md e || decide (e.on < j)) && (List.range j).all fun i => match ops[i]? with
      | some oi => oi.apart ops oj || Region.waitsFor md ops j i
      | none => false
    | none => false) &&
  Region.seqB md ops g n (List.replicate n true ++ List.replicate g false).toArray && lateB md ops p
theorem late_yields {o : Oper} {a : Act} {w : World} {V : Value → World → Prop} (hk : lateKind o = true) (h : Does P o a w (fun v w' => Grow w w' ∧ V v w')) : ∃ u, (∀ w, (execOp a.eval o).run P w = .ok (.value u) w) ∧ V u w := by
  unfold lateKind at hk
  cases ho : o.op <;> simp only [ho] at hk <;> try (cases hk)
  rename_i x i
  unfold Does at h
  have hrun : ∀ w, (execOp a.eval o).run P w = (do let v ← Instr.extract (a.eval x) i; pure (Next.value v)).run P w := fun w => by unfold execOp; simp only [ho]
  rw [hrun] at h
  cases hx : a.eval x with
  | tuple vs =>
    cases hv : vs[i]? with
    | some u =>
      have e : ∀ w, (execOp a.eval o).run P w = .ok (.value u) w := fun w => by
        rw [hrun, hx]
        simp [Instr.extract, hv]
      rw [← hrun, e] at h
      exact ⟨u, e, h.2⟩
    | none => simp [hx, Instr.extract, hv] at h
  | _ => simp [hx, Instr.extract] at h
theorem late_free {p : Nat} {op : Oper} {listed : Array Bool} (ho : ops[p]? = some op) (h : ((List.range ops.size).all fun j => j == p || (op.after.any (fun e => Region.binds md e && e.on == j)) || match ops[j]? with
    | some oj => oj.after.any (fun e => Region.binds md e && e.on == p) || op.apart ops oj
    | none => true) = true) (hall : ∀ e ∈ op.after, Region.binds md e = true → listed.getD e.on false = true) : Region.free md ops listed p = true := by
  unfold Region.free
  rw [ho]
  simp only
  refine List.all_eq_true.2 fun j hj => ?_
  have h1 := List.all_eq_true.1 h j hj
  simp only [Bool.or_eq_true, beq_iff_eq] at h1 ⊢
  rcases h1 with (h1 | h1) | h1
  · exact .inl (.inl h1)
  · refine .inl (.inr ?_)
    obtain ⟨e, he, hb⟩ := Array.any_eq_true'.1 h1
    simp only [Bool.and_eq_true, beq_iff_eq] at hb
    have h2 := hall e he hb.1
    rw [hb.2] at h2
    cases hl : listed.getD j true with
    | true => rfl
    | false => rw [getD_both hl] at h2; cases h2
  · refine .inr ?_
    split at h1 <;> simp_all
theorem tail_waitsL {n p : Nat} {listed : Array Bool} (hs : sinkL md ops n p = true) (hc : Region.chainB md ops n = true) (hn : n < ops.size) (inv : HeadInv md ops n listed) :
    ∀ (d i : Nat), n - i = d → i < n → i ≠ p → listed.getD i true = false → ∀ t, n ≤ t → t ∉ Region.ready md ops listed := by
  intro d
  induction d using Nat.strongRecOn with
  | _ d ih =>
    intro i hd hi hip hun t ht hr
    obtain ⟨_, ot, hot, hall⟩ := mem_ready.1 hr
    have htlt : t < ops.size := (Array.getElem?_eq_some_iff.1 hot).1
    by_cases htn : t = n
    · subst htn
      have h1 := List.all_eq_true.1 hs i (List.mem_range.2 hi)
      simp only [Bool.or_eq_true, beq_iff_eq, hip, false_or] at h1
      obtain ⟨j, hj, hj2⟩ := List.any_eq_true.1 h1
      simp only [Bool.and_eq_true, decide_eq_true_eq, Bool.not_eq_true', beq_eq_false_iff_ne] at hj2
      obtain ⟨hij, hjp, hw⟩ := hj2
      obtain ⟨oj, hoj, e, he, hb, hon⟩ := Region.waitsFor_spec hw
      have hjle : j ≤ t := by have := List.mem_range.1 hj; omega
      by_cases hjt : j = t
      · subst hjt
        have : oj = ot := Option.some.inj (hoj.symm.trans hot)
        subst this
        have h2 := hall e he hb
        rw [hon, getD_both hun] at h2
        cases h2
      · cases hl : listed.getD j false with
        | true =>
          have h2 := inv.closed j oj hoj hl e he hb
          rw [hon, getD_both hun] at h2
          cases h2
        | false =>
          have hjs : j < listed.size := by rw [inv.size]; omega
          exact ih (t - j) (by omega) j rfl (by omega) hjp (getD_in hjs hl) t (Nat.le_refl _) hr
    · have h1 := List.all_eq_true.1 hc t (List.mem_range.2 htlt)
      simp only [Bool.or_eq_true, decide_eq_true_eq] at h1
      rcases h1 with h1 | h1
      · omega
      · obtain ⟨o', ho', e, he, hb, hon⟩ := Region.waitsFor_spec h1
        have : o' = ot := Option.some.inj (ho'.symm.trans hot)
        subst this
        have h2 := hall e he hb
        rw [hon, getD_both (inv.tail (t - 1) (by omega) (by omega))] at h2
        cases h2
theorem any_of_headL {n g p : Nat} {Q : Exit → Act → World → Prop} (hok : okL md ops n g p = true) (hpq : ∀ op, ops[p]? = some op → ∀ v c a w, Q (.panic c) (a.put op.dst v) w → Q (.panic c) a w)
    (hQ : ∀ E a w, Qe E a → Grow W w → (∀ t, E t w) → wpList P ops Q (ops.toList.drop n) a w) :
    ∀ (m : Nat) (r : List (Nat × Oper × (Value → World → Prop))) (listed : Array Bool) (E : Tmp → World → Prop) (a : Act) (w : World), r.length = m → Rest md ops n r listed →
      (∀ t w w', E t w → Grow w w' → E t w') → Grow W w → (∀ t, E t w) → Head0 P ops W Qe (r.map (·.2)) E a → wpAny P md ops Q (m + g) listed a w := by
  simp only [okL, Bool.and_eq_true, decide_eq_true_eq] at hok
  obtain ⟨⟨⟨⟨⟨⟨hsel, hsz⟩, hsL⟩, hcL⟩, hpair⟩, hseq⟩, hlate⟩ := hok
  have hns := fun j o (ho : ops[j]? = some o) cs b => Region.noSelect_spec hsel j o cs b ho
  have hrow : ∀ j oj, ops[j]? = some oj → j < n → (∀ e ∈ oj.after, Region.binds md e = true → e.on < j) ∧ ∀ i oi, ops[i]? = some oi → i < j → oi.apart ops oj = true ∨ Region.waitsFor md ops j i = true := by
    intro j oj hj hjn
    have h1 := List.all_eq_true.1 hpair j (List.mem_range.2 hjn)
    rw [hj] at h1
    simp only [Bool.and_eq_true] at h1
    refine ⟨fun e he hb => ?_, fun i oi hi hij => ?_⟩
    · have h2 := Array.all_eq_true_iff_forall_mem.1 h1.1 e he
      simpa [hb] using h2
    · have h2 := List.all_eq_true.1 h1.2 i (List.mem_range.2 hij)
      rw [hi] at h2
      simpa using h2
  intro m
  induction m with
  | zero =>
    intro r listed E a w hm hR hE hw hEw hH
    obtain rfl : r = [] := List.eq_nil_of_length_eq_zero hm
    have hl : listed = (List.replicate n true ++ List.replicate g false).toArray := by
      apply Array.ext
      · rw [hR.inv.size]; simp; omega
      · intro i h1 h2
        have hi : i < ops.size := by rw [← hR.inv.size]; exact h1
        by_cases hin : i < n
        · have h3 : listed.getD i true = true := by
            cases h : listed.getD i true with
            | true => rfl
            | false => obtain ⟨x, hx, _⟩ := (hR.mem i hin).1 h; cases hx
          simp [h1] at h3
          rw [h3]
          simp [hin]
        · have h3 := hR.inv.tail i (by omega) hi
          simp [h1] at h3
          rw [h3]
          simp [List.getElem_append, hin]
    have hg : (ops.toList.drop n).length = g := by simp; omega
    have := wpAny_of_seq (md := md) (P := P) (ops := ops) (Q' := Q) (ops.toList.drop n) n listed a w (fun j => by simp [List.getElem?_drop]) (by rw [hg, hl]; exact hseq) (hQ E a w hH hw hEw)
    rw [hg] at this
    rw [Nat.zero_add]
    exact this
  | succ m ih =>
    intro r listed E a w hm hR hE hw hEw hH
    have hne : ∃ x, x ∈ r := by
      cases r with
      | nil => simp at hm
      | cons x r => exact ⟨x, List.mem_cons_self⟩
    rw [show m + 1 + g = (m + g) + 1 by omega]
    -- the late one first, where it may come
    by_cases hpr : ∃ x ∈ r, x.1 = p ∧ p ∈ Region.ready md ops listed
    · obtain ⟨x, hx, hxp, hin⟩ := hpr
      obtain ⟨r1, r2, rfl⟩ := List.append_of_mem hx
      obtain ⟨p', o, V⟩ := x
      simp only at hxp
      subst hxp
      obtain ⟨hoo, hpn⟩ := hR.ops _ hx
      simp only at hoo hpn
      obtain ⟨hjun, oj, hoj, hall⟩ := mem_ready.1 hin
      have e1 : oj = o := Option.some.inj (hoj.symm.trans hoo)
      subst e1
      have hlt1 : ∀ q ∈ r1, q.1 < p' := by
        intro q hq
        have h1 := hR.sorted
        rw [List.map_append, List.pairwise_append] at h1
        exact h1.2.2 q.1 (List.mem_map_of_mem (f := fun x => x.1) hq) p' (by simp)
      have hlt2 : ∀ q ∈ r2, p' < q.1 := by
        intro q hq
        have h1 := hR.sorted
        rw [List.map_append, List.pairwise_append, List.map_cons] at h1
        exact List.rel_of_pairwise_cons h1.2.1 (List.mem_map_of_mem (f := fun x => x.1) hq)
      have hap : ∀ q ∈ r1, q.2.1.apart ops oj = true ∧ ∀ cs b, q.2.1.op ≠ .select cs b := by
        intro q hq
        obtain ⟨hop, hqn⟩ := hR.ops q (List.mem_append_left _ hq)
        refine ⟨?_, fun cs b => hns _ _ hop cs b⟩
        rcases (hrow p' oj hoj hpn).2 q.1 q.2.1 hop (hlt1 q hq) with h | h
        · exact h
        · exfalso
          obtain ⟨o', ho', e, he, hb, hon⟩ := Region.waitsFor_spec h
          have : o' = oj := Option.some.inj (ho'.symm.trans hoj)
          subst this
          have h1 := hall e he hb
          have h2 := (hR.mem q.1 hqn).2 ⟨q, List.mem_append_left _ hq, rfl⟩
          rw [hon, getD_both h2] at h1
          cases h1
      have hs := fun cs b => hns p' oj hoj cs b
      have hH' : Head0 P ops W Qe (r1.map (·.2) ++ (oj, V) :: r2.map (·.2)) E a := by simpa using hH
      have hap' : ∀ q ∈ r1.map (·.2), q.1.apart ops oj = true ∧ ∀ cs b, q.1.op ≠ .select cs b := by
        intro q hq
        obtain ⟨z, hz, rfl⟩ := List.mem_map.1 hq
        exact hap z hz
      have hRR : Rest md ops n (r1 ++ r2) (listed.setIfInBounds p' true) := by
        refine ⟨hR.inv.set hin hpn, ?_, fun i hi => ?_, fun y hy => hR.ops y ?_⟩
        · have h1 := hR.sorted
          refine h1.sublist ?_
          rw [List.map_append, List.map_append, List.map_cons]
          exact List.Sublist.append_left (List.sublist_cons_self _ _) _
        · by_cases hij : p' = i
          · subst hij
            have hjl : p' < listed.size := by rw [hR.inv.size]; exact (Array.getElem?_eq_some_iff.1 hoj).1
            have h1 : (listed.setIfInBounds p' true).getD p' true = true := by simp [hjl]
            rw [h1]
            refine ⟨fun h => (by cases h), fun ⟨y, hy, hyj⟩ => ?_⟩
            rcases List.mem_append.1 hy with hy | hy
            · have := hlt1 y hy; omega
            · have := hlt2 y hy; omega
          · rw [getD_set_ne true hij, hR.mem i hi]
            constructor
            · rintro ⟨y, hy, rfl⟩
              rcases List.mem_append.1 hy with hy | hy
              · exact ⟨y, List.mem_append_left _ hy, rfl⟩
              · rcases List.mem_cons.1 hy with rfl | hy
                · exact absurd rfl hij
                · exact ⟨y, List.mem_append_right _ hy, rfl⟩
            · rintro ⟨y, hy, rfl⟩
              rcases List.mem_append.1 hy with hy | hy
              · exact ⟨y, List.mem_append_left _ hy, rfl⟩
              · exact ⟨y, List.mem_append_right _ (List.mem_cons_of_mem _ hy), rfl⟩
        · rcases List.mem_append.1 hy with hy | hy
          · exact List.mem_append_left _ hy
          · exact List.mem_append_right _ (List.mem_cons_of_mem _ hy)
      have hlen : (r1 ++ r2).length = m := by
        simp only [List.length_append, List.length_cons] at hm ⊢
        omega
      have hl := hlate
      unfold lateB at hl
      rw [hoj] at hl
      simp only [Bool.and_eq_true] at hl
      obtain ⟨⟨hkind, hgd⟩, hfree⟩ := hl
      have hwant : Region.wanted oj (yielded ops a.tmps) = true := by
        unfold Region.wanted
        cases hg2 : oj.guard with
        | none => rfl
        | some x => rw [hg2] at hgd; cases hgd
      have hd := head_done (P := P) (ops := ops) (W := W) (Qe := Qe) (V := V) (r1.map (·.2)) E a hap' hH'
      obtain ⟨hst, hdo⟩ := head_needs (P := P) (ops := ops) (W := W) (Qe := Qe) hs (r1.map (·.2)) E a (fun p hp => (hap' p hp).1) hH' hwant ⟨w, hw, hEw⟩ hE
      obtain ⟨u, hrun, hv⟩ := late_yields hkind (hdo w hw (fun t _ => hEw t))
      refine wpAny_take hoj hsel (late_free hoj hfree hall) (by simpa using hin) (hpq oj hoj u) (.inl ⟨hwant, hrun⟩) ?_
      refine ih (r1 ++ r2) _ (upE E oj.dst (V u)) _ w hlen hRR (fun t w w' => ?_) hw (fun t => ?_) (by rw [List.map_append]; exact hd.1 hwant u ⟨w, hv⟩)
      · unfold upE
        split
        · exact hst u w w'
        · exact hE t w w'
      · unfold upE
        split
        · exact hv
        · exact hEw t
    -- somebody else is still to come
    have hne2 : ∃ x ∈ r, x.1 ≠ p := by
      obtain ⟨x, hx⟩ := hne
      by_cases hxp : x.1 = p
      · obtain ⟨hox, hxn⟩ := hR.ops x hx
        have hun := (hR.mem x.1 hxn).2 ⟨x, hx, rfl⟩
        have hnr : x.1 ∉ Region.ready md ops listed := fun hin => hpr ⟨x, hx, hxp, hxp ▸ hin⟩
        have : ∃ e ∈ x.2.1.after, Region.binds md e = true ∧ listed.getD e.on false ≠ true := by
          refine Classical.byContradiction fun hno => hnr (mem_ready.2 ⟨hun, x.2.1, hox, fun e he hb => ?_⟩)
          refine Classical.byContradiction fun hne => hno ⟨e, he, hb, hne⟩
        obtain ⟨e, he, hb, hel⟩ := this
        have hlt := (hrow x.1 x.2.1 hox hxn).1 e he hb
        have h3 : listed.getD e.on false = false := by
          cases h : listed.getD e.on false with
          | true => exact absurd h hel
          | false => rfl
        have h2 := getD_in (by rw [hR.inv.size]; have := (Array.getElem?_eq_some_iff.1 hox).1; omega) h3
        obtain ⟨y, hy, hye⟩ := (hR.mem e.on (by omega)).1 h2
        exact ⟨y, hy, by omega⟩
      · exact ⟨x, hx, hxp⟩
    refine ⟨fun hr => ?_, fun j hj => ?_⟩
    · exfalso
      -- the first of the rest is ready
      cases r with
      | nil => simp at hm
      | cons x r =>
        obtain ⟨hox, hxn⟩ := hR.ops x List.mem_cons_self
        have hun := (hR.mem x.1 hxn).2 ⟨x, List.mem_cons_self, rfl⟩
        have hin : x.1 ∈ Region.ready md ops listed := by
          refine mem_ready.2 ⟨hun, x.2.1, hox, fun e he hb => ?_⟩
          have hlt := (hrow x.1 x.2.1 hox hxn).1 e he hb
          cases h : listed.getD e.on false with
          | true => rfl
          | false =>
            have h2 := getD_in (by rw [hR.inv.size]; have := (Array.getElem?_eq_some_iff.1 hox).1; omega) h
            obtain ⟨y, hy, hye⟩ := (hR.mem e.on (by omega)).1 h2
            rcases List.mem_cons.1 hy with rfl | hy
            · omega
            · have := List.rel_of_pairwise_cons (by simpa using hR.sorted) (List.mem_map_of_mem (f := fun x => x.1) hy)
              omega
        rw [hr] at hin
        cases hin
    · obtain ⟨x0, hx0, hx0p⟩ := hne2
      obtain ⟨hjun, oj, hoj, hall⟩ := mem_ready.1 hj
      have hjs : j < ops.size := (Array.getElem?_eq_some_iff.1 hoj).1
      have hjn : j < n := by
        rcases Nat.lt_or_ge j n with h | h
        · exact h
        · exfalso
          obtain ⟨_, hx0n⟩ := hR.ops x0 hx0
          exact tail_waitsL hsL hcL (by omega) hR.inv (n - x0.1) x0.1 rfl hx0n hx0p ((hR.mem x0.1 hx0n).2 ⟨x0, hx0, rfl⟩) j h hj
      obtain ⟨x, hx, hxj⟩ := (hR.mem j hjn).1 hjun
      obtain ⟨r1, r2, rfl⟩ := List.append_of_mem hx
      obtain ⟨j', o, V⟩ := x
      simp only at hxj
      subst hxj
      have hoo : o = oj := Option.some.inj ((hR.ops _ hx).1.symm.trans hoj)
      subst hoo
      have hlt1 : ∀ p ∈ r1, p.1 < j' := by
        intro p hp
        have h1 := hR.sorted
        rw [List.map_append, List.pairwise_append] at h1
        exact h1.2.2 p.1 (List.mem_map_of_mem (f := fun x => x.1) hp) j' (by simp)
      have hlt2 : ∀ p ∈ r2, j' < p.1 := by
        intro p hp
        have h1 := hR.sorted
        rw [List.map_append, List.pairwise_append, List.map_cons] at h1
        exact List.rel_of_pairwise_cons h1.2.1 (List.mem_map_of_mem (f := fun x => x.1) hp)
      have hap : ∀ p ∈ r1, p.2.1.apart ops o = true ∧ ∀ cs b, p.2.1.op ≠ .select cs b := by
        intro p hp
        obtain ⟨hop, hpn⟩ := hR.ops p (List.mem_append_left _ hp)
        refine ⟨?_, fun cs b => hns _ _ hop cs b⟩
        rcases (hrow j' o hoj hjn).2 p.1 p.2.1 hop (hlt1 p hp) with h | h
        · exact h
        · exfalso
          obtain ⟨o', ho', e, he, hb, hon⟩ := Region.waitsFor_spec h
          have : o' = o := Option.some.inj (ho'.symm.trans hoj)
          subst this
          have h1 := hall e he hb
          have h2 := (hR.mem p.1 hpn).2 ⟨p, List.mem_append_left _ hp, rfl⟩
          rw [hon, getD_both h2] at h1
          cases h1
      have hs := fun cs b => hns j' o hoj cs b
      have hH' : Head0 P ops W Qe (r1.map (·.2) ++ (o, V) :: r2.map (·.2)) E a := by simpa using hH
      have hap' : ∀ p ∈ r1.map (·.2), p.1.apart ops o = true ∧ ∀ cs b, p.1.op ≠ .select cs b := by
        intro p hp
        obtain ⟨q, hq, rfl⟩ := List.mem_map.1 hp
        exact hap q hq
      have hRR : Rest md ops n (r1 ++ r2) (listed.setIfInBounds j' true) := by
        refine ⟨hR.inv.set hj hjn, ?_, fun i hi => ?_, fun y hy => hR.ops y ?_⟩
        · have h1 := hR.sorted
          refine h1.sublist ?_
          rw [List.map_append, List.map_append, List.map_cons]
          exact List.Sublist.append_left (List.sublist_cons_self _ _) _
        · by_cases hij : j' = i
          · subst hij
            have hjl : j' < listed.size := by rw [hR.inv.size]; exact hjs
            have h1 : (listed.setIfInBounds j' true).getD j' true = true := by simp [hjl]
            rw [h1]
            refine ⟨fun h => (by cases h), fun ⟨y, hy, hyj⟩ => ?_⟩
            rcases List.mem_append.1 hy with hy | hy
            · have := hlt1 y hy; omega
            · have := hlt2 y hy; omega
          · rw [getD_set_ne true hij, hR.mem i hi]
            constructor
            · rintro ⟨y, hy, rfl⟩
              rcases List.mem_append.1 hy with hy | hy
              · exact ⟨y, List.mem_append_left _ hy, rfl⟩
              · rcases List.mem_cons.1 hy with rfl | hy
                · exact absurd rfl hij
                · exact ⟨y, List.mem_append_right _ hy, rfl⟩
            · rintro ⟨y, hy, rfl⟩
              rcases List.mem_append.1 hy with hy | hy
              · exact ⟨y, List.mem_append_left _ hy, rfl⟩
              · exact ⟨y, List.mem_append_right _ (List.mem_cons_of_mem _ hy), rfl⟩
        · rcases List.mem_append.1 hy with hy | hy
          · exact List.mem_append_left _ hy
          · exact List.mem_append_right _ (List.mem_cons_of_mem _ hy)
      have hlen : (r1 ++ r2).length = m := by
        simp only [List.length_append, List.length_cons] at hm ⊢
        omega
      have hd := head_done (P := P) (ops := ops) (W := W) (Qe := Qe) (V := V) (r1.map (·.2)) E a hap' hH'
      unfold wpOp
      rw [hoj]
      simp only
      by_cases hwant : Region.wanted o (yielded ops a.tmps) = true
      · rw [if_pos hwant]
        left
        obtain ⟨hst, hdo⟩ := head_needs (P := P) (ops := ops) (W := W) (Qe := Qe) hs (r1.map (·.2)) E a (fun p hp => (hap' p hp).1) hH' hwant ⟨w, hw, hEw⟩ hE
        refine (hdo w hw (fun t _ => hEw t)).wp fun v w' ⟨hg, hv⟩ => ?_
        refine ih (r1 ++ r2) _ (upE E o.dst (V v)) _ w' hlen hRR (fun t w w' => ?_) (hw.trans hg) (fun t => ?_) (by rw [List.map_append]; exact hd.1 hwant v ⟨w', hv⟩)
        · unfold upE
          split
          · exact hst v w w'
          · exact hE t w w'
        · unfold upE
          split
          · exact hv
          · exact hE t _ _ (hEw t) hg
      · rw [if_neg hwant]
        refine ih (r1 ++ r2) _ (upE E o.dst (fun _ => True)) _ w hlen hRR (fun t w w' => ?_) hw (fun t => ?_) (by rw [List.map_append]; exact hd.2 hwant)
        · unfold upE
          split
          · exact fun h _ => h
          · exact hE t w w'
        · unfold upE
          split
          · trivial
          · exact hEw t

theorem wp_region_headL {id : Nat} {Q : Exit → Act → World → Prop} {a : Act} {w : World} {l : List Oper} (n g p : Nat) (Vs : List (Value → World → Prop)) (hn : Vs.length = n) (hm : P.follows .mixedOrders = true) (hok : okL .any l.toArray n g p = true) (hpq : ∀ op, l.toArray[p]? = some op → ∀ v c a w, Q (.panic c) (a.put op.dst v) w → Q (.panic c) a w)
    (h : Head P l.toArray w (fun E a' => ∀ w', Grow w w' → (∀ t, E t w') → wpList P l.toArray Q (l.drop n) a' w') ((l.take n).zip Vs) (fun _ _ => True) a) : (Code.region id l.toArray true).wp P Q a w := by
  replace h := h.out
  have hok' := hok
  simp only [okL, Bool.and_eq_true, decide_eq_true_eq] at hok'
  obtain ⟨⟨⟨⟨⟨⟨_, hsz⟩, _⟩, _⟩, _⟩, _⟩, _⟩ := hok'
  have hsz' : n + g = l.length := by simpa using hsz
  refine wp_region_any hm ?_
  have hz : ((List.range n).zip ((l.take n).zip Vs)).map (·.2) = (l.take n).zip Vs := by
    rw [List.map_snd_zip]
    simp
    omega
  have hzl : ((List.range n).zip ((l.take n).zip Vs)).length = n := by simp; omega
  have hel : ∀ x ∈ (List.range n).zip ((l.take n).zip Vs), l[x.1]? = some x.2.1 ∧ x.1 < n := by
    intro x hx
    obtain ⟨k, hk⟩ := List.getElem?_of_mem hx
    have h1 := List.getElem?_zip_eq_some.1 hk
    have h2 := List.getElem?_zip_eq_some.1 h1.2
    have h3 := List.getElem?_eq_some_iff.1 h1.1
    obtain ⟨h4, h5⟩ := h3
    simp at h4 h5
    subst h5
    refine ⟨?_, h4⟩
    have := h2.1
    rw [List.getElem?_take, if_pos h4] at this
    exact this
  have key := any_of_headL (P := P) (ops := l.toArray) (md := .any) (W := w) (Q := Q) (n := n) (g := g) (p := p)
    (Qe := fun E a' => ∀ w', Grow w w' → (∀ t, E t w') → wpList P l.toArray Q (l.drop n) a' w') hok hpq
    (fun E a' w' hq hg hE => by simpa using hq w' hg hE) n _ (Array.replicate l.toArray.size false) (fun _ _ => True) a { w with drawn := w.drawn + 1 } hzl
    ⟨⟨by simp, fun j oj _ hl => (by rw [getD_replicate_false] at hl; cases hl), fun t _ ht => getD_in (by simpa using ht) (getD_replicate_false _ _)⟩, by
      have : ((List.range n).zip ((l.take n).zip Vs)).map (·.1) = List.range n := by
        rw [List.map_fst_zip]
        simp
        omega
      rw [this]
      exact List.pairwise_lt_range, fun i hi => by
      refine ⟨fun _ => ?_, fun _ => getD_in (by simp; omega) (getD_replicate_false _ _)⟩
      have hi' : i < ((List.range n).zip ((l.take n).zip Vs)).length := by rw [hzl]; exact hi
      exact ⟨_, List.getElem_mem hi', by simp⟩, fun x hx => by simpa using hel x hx⟩
    (fun _ _ _ h _ => h) (Below.drew (Below.refl _ _)) (fun _ => trivial) (by rw [hz]; exact h)
  have e : n + g = l.toArray.size := by simpa using hsz'
  rw [e] at key
  exact key

end
end Go.Qk
