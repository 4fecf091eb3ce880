/-
A region of open order is walked once, in the order of its text: each operation is shown to yield a value of which something that lasts is known.
-/
import Derived.WalkKit
import Derived.StillTail
set_option linter.unusedSimpArgs false
set_option linter.unusedVariables false
namespace Go.Qk
open Go.RowKit

theorem hid {p : Prop} (h : p) : Hid p := h

/-- The world has only grown. -/
abbrev Grow (w w' : World) : Prop := Below w.heap.size w w'
theorem Grow.trans {a b c : World} (h : Grow a b) (k : Grow b c) : Grow a c :=
  Below.trans h ⟨k.os, k.tape, k.output, k.size, fun i hi => k.block i (Nat.lt_of_lt_of_le hi h.size)⟩

/-- What an operation does: it yields a value. -/
def Does (P : Program) (o : Oper) (a : Act) (w : World) (V : Value → World → Prop) : Prop :=
  match (execOp a.eval o).run P w with
  | .ok (.value v) w' => V v w'
  | .ok .skip w' => V undef w'
  | .ok (.enter f args) w' => Calls P f args w' fun e w'' => ∃ v, e = .returned v ∧ V v w''
  | .ok (.row r args) w' => Rows P r args w' V
  | _ => False

section
variable {P : Program} {ops : Array Oper} {md : Region.Mode} {W : World}

theorem Does.ex {o : Oper} {a : Act} {w : World} {V : Value → World → Prop} (h : Does P o a w V) : ∃ v w', V v w' := by
  unfold Does at h
  generalize (execOp a.eval o).run P w = r at h
  cases r with
  | ok n w' =>
    cases n <;> simp only at h
    case value v => exact ⟨v, w', h⟩
    case skip => exact ⟨_, w', h⟩
    case enter f args =>
      obtain ⟨e, w1, fr, ⟨v, _, hv⟩, _⟩ := h []
      exact ⟨v, w1, hv⟩
    case row r args =>
      obtain ⟨v, w1, hv, _⟩ := h default []
      exact ⟨v, w1, hv⟩
  | halt x w' => simp only at h

theorem Does.wp {o : Oper} {a : Act} {w : World} {V : Value → World → Prop} {K : Act → World → Prop} {Q : Exit → Act → World → Prop} (h : Does P o a w V)
    (hK : ∀ v w', V v w' → K (a.put o.dst v) w') : o.wp P a w K Q := by
  unfold Does at h
  unfold Oper.wp
  generalize (execOp a.eval o).run P w = r at h
  cases r with
  | ok n w' =>
    cases n <;> simp only [Oper.upon] at h ⊢
    case value v => exact hK _ _ h
    case skip => exact hK _ _ h
    case enter f args =>
      refine Calls.mono h fun e w'' he => ?_
      obtain ⟨v, rfl, hv⟩ := he
      exact hK _ _ hv
    case row r args => exact Rows.mono h fun v w'' hv => hK _ _ hv
  | halt x w' => simp only at h

theorem Does.mono {o : Oper} {a : Act} {w : World} {V V' : Value → World → Prop} (h : Does P o a w V) (hV : ∀ v w', V v w' → V' v w') : Does P o a w V' := by
  unfold Does at *
  generalize (execOp a.eval o).run P w = r at h
  cases r with
  | ok n w' =>
    cases n <;> simp only at h ⊢
    case value v => exact hV _ _ h
    case skip => exact hV _ _ h
    case enter f args => exact Calls.mono h fun e w'' ⟨v, he, hv⟩ => ⟨v, he, hV _ _ hv⟩
    case row r args => exact Rows.mono h fun v w'' hv => hV _ _ hv
  | halt x w' => simp only at h

theorem Does.of_same {o : Oper} {a a' : Act} {w : World} {V : Value → World → Prop} (h : Does P o a w V) (he : execOp a'.eval o = execOp a.eval o) : Does P o a' w V := by
  unfold Does at *
  rw [he]
  exact h

/-- What is known of the slots. -/
def upE (E : Tmp → World → Prop) (d : Option Tmp) (F : World → Prop) : Tmp → World → Prop := fun t => if d = some t then F else E t
theorem upE_ne {E : Tmp → World → Prop} {d : Option Tmp} {F : World → Prop} {t : Tmp} (h : d ≠ some t) : upE E d F t = E t := if_neg h
theorem upE_comm {E : Tmp → World → Prop} {d e : Option Tmp} {F G : World → Prop} (h : ∀ t, d = some t → e ≠ some t) : upE (upE E d F) e G = upE (upE E e G) d F := by
  funext t
  unfold upE
  by_cases h1 : d = some t
  · rw [if_neg (h t h1), if_pos h1, if_pos h1]
  · by_cases h2 : e = some t
    · simp [h1, h2]
    · simp [h1, h2]

/-- The walk in the order of the text. -/
def Head0 (P : Program) (ops : Array Oper) (W : World) (Qe : (Tmp → World → Prop) → Act → Prop) : List (Oper × (Value → World → Prop)) → (Tmp → World → Prop) → Act → Prop
  | [], E, a => Qe E a
  | (o, V) :: r, E, a =>
    if Region.wanted o (yielded ops a.tmps) = true then
      (∀ v w w', V v w → Grow w w' → V v w') ∧ (∀ w, Grow W w → (∀ t ∈ o.looksAt ops, E t w) → Does P o a w (fun v w' => Grow w w' ∧ V v w')) ∧
        (∀ v, (∃ w, V v w) → Head0 P ops W Qe r (upE E o.dst (V v)) (a.put o.dst v))
    else Head0 P ops W Qe r (upE E o.dst (fun _ => True)) (a.put o.dst undef)

variable {Qe : (Tmp → World → Prop) → Act → Prop}

theorem head_needs {o : Oper} {V : Value → World → Prop} {r2 : List (Oper × (Value → World → Prop))} (hs : ∀ cs b, o.op ≠ .select cs b) :
    ∀ (r1 : List (Oper × (Value → World → Prop))) (E : Tmp → World → Prop) (a : Act), (∀ p ∈ r1, p.1.apart ops o = true) → Head0 P ops W Qe (r1 ++ (o, V) :: r2) E a → Region.wanted o (yielded ops a.tmps) = true →
      (∃ w, Grow W w ∧ ∀ t, E t w) → (∀ t w w', E t w → Grow w w' → E t w') →
      (∀ v w w', V v w → Grow w w' → V v w') ∧ ∀ w, Grow W w → (∀ t ∈ o.looksAt ops, E t w) → Does P o a w (fun v w' => Grow w w' ∧ V v w') := by
  intro r1
  induction r1 with
  | nil =>
    intro E a _ h hw _ _
    simp only [List.nil_append, Head0, hw, if_true] at h
    exact ⟨h.1, h.2.1⟩
  | cons p r1 ih =>
    intro E a hap h hw hex hE
    obtain ⟨p, U⟩ := p
    have hp := hap _ List.mem_cons_self
    obtain ⟨h1, h2, h3⟩ := Oper.apart_spec hp
    simp only [List.cons_append, Head0] at h
    have same : ∀ v, execOp (a.put p.dst v).eval o = execOp a.eval o := fun v => execOp_put o hs a p.dst v h1
    have wsame : ∀ v, Region.wanted o (yielded ops (a.put p.dst v).tmps) = Region.wanted o (yielded ops a.tmps) := fun v => wanted_put o a p.dst v h1
    have look : ∀ F t, t ∈ o.looksAt ops → upE E p.dst F t = E t := fun F t ht => upE_ne (fun e => h1 t e ht)
    by_cases hpw : Region.wanted p (yielded ops a.tmps) = true
    · rw [if_pos hpw] at h
      obtain ⟨hst, hdo, hgo⟩ := h
      obtain ⟨w, hWw, hEw⟩ := hex
      obtain ⟨u, w1, hg1, hu⟩ := (hdo w hWw (fun t _ => hEw t)).ex
      have := ih (upE E p.dst (U u)) (a.put p.dst u) (fun q hq => hap q (List.mem_cons_of_mem _ hq)) (hgo u ⟨w1, hu⟩) (by rw [wsame]; exact hw)
        ⟨w1, hWw.trans hg1, fun t => by
          unfold upE
          split
          · exact hu
          · exact hE t _ _ (hEw t) hg1⟩
        (fun t w w' => by
          unfold upE
          split
          · exact hst u w w'
          · exact hE t w w')
      refine ⟨this.1, fun w hw' hl => (this.2 w hw' (fun t ht => by rw [look _ t ht]; exact hl t ht)).of_same (same u).symm⟩
    · rw [if_neg hpw] at h
      obtain ⟨w, hWw, hEw⟩ := hex
      have := ih (upE E p.dst (fun _ => True)) (a.put p.dst undef) (fun q hq => hap q (List.mem_cons_of_mem _ hq)) h (by rw [wsame]; exact hw)
        ⟨w, hWw, fun t => by
          unfold upE
          split
          · trivial
          · exact hEw t⟩
        (fun t w w' => by
          unfold upE
          split
          · exact fun h _ => h
          · exact hE t w w')
      refine ⟨this.1, fun w hw' hl => (this.2 w hw' (fun t ht => by rw [look _ t ht]; exact hl t ht)).of_same (same undef).symm⟩

theorem head_done {o : Oper} {V : Value → World → Prop} {r2 : List (Oper × (Value → World → Prop))} :
    ∀ (r1 : List (Oper × (Value → World → Prop))) (E : Tmp → World → Prop) (a : Act), (∀ p ∈ r1, p.1.apart ops o = true ∧ ∀ cs b, p.1.op ≠ .select cs b) → Head0 P ops W Qe (r1 ++ (o, V) :: r2) E a →
      (Region.wanted o (yielded ops a.tmps) = true → ∀ v, (∃ w, V v w) → Head0 P ops W Qe (r1 ++ r2) (upE E o.dst (V v)) (a.put o.dst v)) ∧
      (¬ Region.wanted o (yielded ops a.tmps) = true → Head0 P ops W Qe (r1 ++ r2) (upE E o.dst (fun _ => True)) (a.put o.dst undef)) := by
  intro r1
  induction r1 with
  | nil =>
    intro E a _ h
    simp only [List.nil_append, Head0] at h
    refine ⟨fun hw => ?_, fun hw => ?_⟩
    · rw [if_pos hw] at h; exact h.2.2
    · rw [if_neg hw] at h; exact h
  | cons p r1 ih =>
    intro E a hap h
    obtain ⟨p, U⟩ := p
    have hp := (hap _ List.mem_cons_self).1
    have hps := (hap _ List.mem_cons_self).2
    obtain ⟨h1, h2, h3⟩ := Oper.apart_spec hp
    simp only [List.cons_append, Head0] at h ⊢
    have wsame : ∀ v, Region.wanted o (yielded ops (a.put p.dst v).tmps) = Region.wanted o (yielded ops a.tmps) := fun v => wanted_put o a p.dst v h1
    have wsame' : ∀ v, Region.wanted p (yielded ops (a.put o.dst v).tmps) = Region.wanted p (yielded ops a.tmps) := fun v => wanted_put p a o.dst v h3
    have same' : ∀ v, execOp (a.put o.dst v).eval p = execOp a.eval p := fun v => execOp_put p hps a o.dst v h3
    have look : ∀ F t, t ∈ p.looksAt ops → upE E o.dst F t = E t := fun F t ht => upE_ne (fun e => h3 t e ht)
    have hh : ∀ d, o.dst = some d → p.dst ≠ some d := fun d hd hpd => h2 d hpd hd
    by_cases hpw : Region.wanted p (yielded ops a.tmps) = true
    · rw [if_pos hpw] at h
      obtain ⟨hst, hdo, hgo⟩ := h
      refine ⟨fun hw v hv => ?_, fun hw => ?_⟩
      · rw [if_pos (by rw [wsame']; exact hpw)]
        refine ⟨hst, fun w hw' hl => (hdo w hw' (fun t ht => by rw [← look _ t ht]; exact hl t ht)).of_same (same' v), fun u hu => ?_⟩
        have := (ih _ _ (fun q hq => hap q (List.mem_cons_of_mem _ hq)) (hgo u hu)).1 (by rw [wsame]; exact hw) v hv
        rw [upE_comm hh, Act.put_comm _ _ _ hh]
        exact this
      · rw [if_pos (by rw [wsame']; exact hpw)]
        refine ⟨hst, fun w hw' hl => (hdo w hw' (fun t ht => by rw [← look _ t ht]; exact hl t ht)).of_same (same' _), fun u hu => ?_⟩
        have := (ih _ _ (fun q hq => hap q (List.mem_cons_of_mem _ hq)) (hgo u hu)).2 (by rw [wsame]; exact hw)
        rw [upE_comm hh, Act.put_comm _ _ _ hh]
        exact this
    · rw [if_neg hpw] at h
      refine ⟨fun hw v hv => ?_, fun hw => ?_⟩
      · rw [if_neg (by rw [wsame']; exact hpw)]
        have := (ih _ _ (fun q hq => hap q (List.mem_cons_of_mem _ hq)) h).1 (by rw [wsame]; exact hw) v hv
        rw [upE_comm hh, Act.put_comm _ _ _ hh]
        exact this
      · rw [if_neg (by rw [wsame']; exact hpw)]
        have := (ih _ _ (fun q hq => hap q (List.mem_cons_of_mem _ hq)) h).2 (by rw [wsame]; exact hw)
        rw [upE_comm hh, Act.put_comm _ _ _ hh]
        exact this

/-- What the order of the text may be taken for: edges go back, and whoever isn't apart waits. -/
def okB (md : Region.Mode) (ops : Array Oper) (n g : Nat) : Bool :=
  Region.noSelect ops && decide (n + g = ops.size) && (decide (g = 0) || (Region.sinkB md ops n && Region.chainB md ops n)) &&
  ((List.range n).all fun j => match ops[j]? with
    | some oj => oj.after.all (fun e => !Region.binds md e || decide (e.on < j)) && (List.range j).all fun i => match ops[i]? with
      | some oi => oi.apart ops oj || Region.waitsFor md ops j i
      | none => false
    | none => false) &&
  Region.seqB md ops g n (List.replicate n true ++ List.replicate g false).toArray

structure Rest (md : Region.Mode) (ops : Array Oper) (n : Nat) (r : List (Nat × Oper × (Value → World → Prop))) (listed : Array Bool) : Prop where
  inv : HeadInv md ops n listed
  sorted : (r.map (·.1)).Pairwise (· < ·)
  mem : ∀ i, i < n → (listed.getD i true = false ↔ ∃ x ∈ r, x.1 = i)
  ops : ∀ x ∈ r, ops[x.1]? = some x.2.1 ∧ x.1 < n

theorem any_of_head {n g : Nat} {Q : Exit → Act → World → Prop} (hok : okB md ops n g = true)
    (hQ : ∀ E a w, Qe E a → Grow W w → (∀ t, E t w) → wpList P ops Q (ops.toList.drop n) a w) :
    ∀ (m : Nat) (r : List (Nat × Oper × (Value → World → Prop))) (listed : Array Bool) (E : Tmp → World → Prop) (a : Act) (w : World), r.length = m → Rest md ops n r listed →
      (∀ t w w', E t w → Grow w w' → E t w') → Grow W w → (∀ t, E t w) → Head0 P ops W Qe (r.map (·.2)) E a → wpAny P md ops Q (m + g) listed a w := by
  simp only [okB, Bool.and_eq_true, Bool.or_eq_true, decide_eq_true_eq] at hok
  obtain ⟨⟨⟨⟨hsel, hsz⟩, htail⟩, hpair⟩, hseq⟩ := hok
  have hns := fun j o (ho : ops[j]? = some o) cs b => Region.noSelect_spec hsel j o cs b ho
  have hrow : ∀ j oj, ops[j]? = some oj → j < n → (∀ e ∈ oj.after, Region.binds md e = true → e.on < j) ∧ ∀ i oi, ops[i]? = some oi → i < j → oi.apart ops oj = true ∨ Region.waitsFor md ops j i = true := by
    intro j oj hj hjn
    have h1 := List.all_eq_true.1 hpair j (List.mem_range.2 hjn)
    rw [hj] at h1
    simp only [Bool.and_eq_true] at h1
    refine ⟨fun e he hb => ?_, fun i oi hi hij => ?_⟩
    · have h2 := Array.all_eq_true_iff_forall_mem.1 h1.1 e he
      simpa [hb] using h2
    · have h2 := List.all_eq_true.1 h1.2 i (List.mem_range.2 hij)
      rw [hi] at h2
      simpa using h2
  intro m
  induction m with
  | zero =>
    intro r listed E a w hm hR hE hw hEw hH
    obtain rfl : r = [] := List.eq_nil_of_length_eq_zero hm
    have hl : listed = (List.replicate n true ++ List.replicate g false).toArray := by
      apply Array.ext
      · rw [hR.inv.size]; simp; omega
      · intro i h1 h2
        have hi : i < ops.size := by rw [← hR.inv.size]; exact h1
        by_cases hin : i < n
        · have h3 : listed.getD i true = true := by
            cases h : listed.getD i true with
            | true => rfl
            | false => obtain ⟨x, hx, _⟩ := (hR.mem i hin).1 h; cases hx
          simp [h1] at h3
          rw [h3]
          simp [hin]
        · have h3 := hR.inv.tail i (by omega) hi
          simp [h1] at h3
          rw [h3]
          simp [List.getElem_append, hin]
    have hg : (ops.toList.drop n).length = g := by simp; omega
    have := wpAny_of_seq (md := md) (P := P) (ops := ops) (Q' := Q) (ops.toList.drop n) n listed a w (fun j => by simp [List.getElem?_drop]) (by rw [hg, hl]; exact hseq) (hQ E a w hH hw hEw)
    rw [hg] at this
    rw [Nat.zero_add]
    exact this
  | succ m ih =>
    intro r listed E a w hm hR hE hw hEw hH
    have hne : ∃ x, x ∈ r := by
      cases r with
      | nil => simp at hm
      | cons x r => exact ⟨x, List.mem_cons_self⟩
    rw [show m + 1 + g = (m + g) + 1 by omega]
    refine ⟨fun hr => ?_, fun j hj => ?_⟩
    · exfalso
      -- the first of the rest is ready
      cases r with
      | nil => simp at hm
      | cons x r =>
        obtain ⟨hox, hxn⟩ := hR.ops x List.mem_cons_self
        have hun := (hR.mem x.1 hxn).2 ⟨x, List.mem_cons_self, rfl⟩
        have hin : x.1 ∈ Region.ready md ops listed := by
          refine mem_ready.2 ⟨hun, x.2.1, hox, fun e he hb => ?_⟩
          have hlt := (hrow x.1 x.2.1 hox hxn).1 e he hb
          cases h : listed.getD e.on false with
          | true => rfl
          | false =>
            have h2 := getD_in (by rw [hR.inv.size]; have := (Array.getElem?_eq_some_iff.1 hox).1; omega) h
            obtain ⟨y, hy, hye⟩ := (hR.mem e.on (by omega)).1 h2
            rcases List.mem_cons.1 hy with rfl | hy
            · omega
            · have := List.rel_of_pairwise_cons (by simpa using hR.sorted) (List.mem_map_of_mem (f := fun x => x.1) hy)
              omega
        rw [hr] at hin
        cases hin
    · obtain ⟨x0, hx0⟩ := hne
      obtain ⟨hjun, oj, hoj, hall⟩ := mem_ready.1 hj
      have hjs : j < ops.size := (Array.getElem?_eq_some_iff.1 hoj).1
      have hjn : j < n := by
        rcases htail with h0 | ⟨hs, hc⟩
        · omega
        · rcases Nat.lt_or_ge j n with h | h
          · exact h
          · exfalso
            obtain ⟨_, hx0n⟩ := hR.ops x0 hx0
            exact tail_waits hs hc (by omega) hR.inv (n - x0.1) x0.1 rfl hx0n ((hR.mem x0.1 hx0n).2 ⟨x0, hx0, rfl⟩) j h hj
      obtain ⟨x, hx, hxj⟩ := (hR.mem j hjn).1 hjun
      obtain ⟨r1, r2, rfl⟩ := List.append_of_mem hx
      obtain ⟨j', o, V⟩ := x
      simp only at hxj
      subst hxj
      have hoo : o = oj := Option.some.inj ((hR.ops _ hx).1.symm.trans hoj)
      subst hoo
      have hlt1 : ∀ p ∈ r1, p.1 < j' := by
        intro p hp
        have h1 := hR.sorted
        rw [List.map_append, List.pairwise_append] at h1
        exact h1.2.2 p.1 (List.mem_map_of_mem (f := fun x => x.1) hp) j' (by simp)
      have hlt2 : ∀ p ∈ r2, j' < p.1 := by
        intro p hp
        have h1 := hR.sorted
        rw [List.map_append, List.pairwise_append, List.map_cons] at h1
        exact List.rel_of_pairwise_cons h1.2.1 (List.mem_map_of_mem (f := fun x => x.1) hp)
      have hap : ∀ p ∈ r1, p.2.1.apart ops o = true ∧ ∀ cs b, p.2.1.op ≠ .select cs b := by
        intro p hp
        obtain ⟨hop, hpn⟩ := hR.ops p (List.mem_append_left _ hp)
        refine ⟨?_, fun cs b => hns _ _ hop cs b⟩
        rcases (hrow j' o hoj hjn).2 p.1 p.2.1 hop (hlt1 p hp) with h | h
        · exact h
        · exfalso
          obtain ⟨o', ho', e, he, hb, hon⟩ := Region.waitsFor_spec h
          have : o' = o := Option.some.inj (ho'.symm.trans hoj)
          subst this
          have h1 := hall e he hb
          have h2 := (hR.mem p.1 hpn).2 ⟨p, List.mem_append_left _ hp, rfl⟩
          rw [hon, getD_both h2] at h1
          cases h1
      have hs := fun cs b => hns j' o hoj cs b
      have hH' : Head0 P ops W Qe (r1.map (·.2) ++ (o, V) :: r2.map (·.2)) E a := by simpa using hH
      have hap' : ∀ p ∈ r1.map (·.2), p.1.apart ops o = true ∧ ∀ cs b, p.1.op ≠ .select cs b := by
        intro p hp
        obtain ⟨q, hq, rfl⟩ := List.mem_map.1 hp
        exact hap q hq
      have hRR : Rest md ops n (r1 ++ r2) (listed.setIfInBounds j' true) := by
        refine ⟨hR.inv.set hj hjn, ?_, fun i hi => ?_, fun y hy => hR.ops y ?_⟩
        · have h1 := hR.sorted
          refine h1.sublist ?_
          rw [List.map_append, List.map_append, List.map_cons]
          exact List.Sublist.append_left (List.sublist_cons_self _ _) _
        · by_cases hij : j' = i
          · subst hij
            have hjl : j' < listed.size := by rw [hR.inv.size]; exact hjs
            have h1 : (listed.setIfInBounds j' true).getD j' true = true := by simp [hjl]
            rw [h1]
            refine ⟨fun h => (by cases h), fun ⟨y, hy, hyj⟩ => ?_⟩
            rcases List.mem_append.1 hy with hy | hy
            · have := hlt1 y hy; omega
            · have := hlt2 y hy; omega
          · rw [getD_set_ne true hij, hR.mem i hi]
            constructor
            · rintro ⟨y, hy, rfl⟩
              rcases List.mem_append.1 hy with hy | hy
              · exact ⟨y, List.mem_append_left _ hy, rfl⟩
              · rcases List.mem_cons.1 hy with rfl | hy
                · exact absurd rfl hij
                · exact ⟨y, List.mem_append_right _ hy, rfl⟩
            · rintro ⟨y, hy, rfl⟩
              rcases List.mem_append.1 hy with hy | hy
              · exact ⟨y, List.mem_append_left _ hy, rfl⟩
              · exact ⟨y, List.mem_append_right _ (List.mem_cons_of_mem _ hy), rfl⟩
        · rcases List.mem_append.1 hy with hy | hy
          · exact List.mem_append_left _ hy
          · exact List.mem_append_right _ (List.mem_cons_of_mem _ hy)
      have hlen : (r1 ++ r2).length = m := by
        simp only [List.length_append, List.length_cons] at hm ⊢
        omega
      have hd := head_done (P := P) (ops := ops) (W := W) (Qe := Qe) (V := V) (r1.map (·.2)) E a hap' hH'
      unfold wpOp
      rw [hoj]
      simp only
      by_cases hwant : Region.wanted o (yielded ops a.tmps) = true
      · rw [if_pos hwant]
        left
        obtain ⟨hst, hdo⟩ := head_needs (P := P) (ops := ops) (W := W) (Qe := Qe) hs (r1.map (·.2)) E a (fun p hp => (hap' p hp).1) hH' hwant ⟨w, hw, hEw⟩ hE
        refine (hdo w hw (fun t _ => hEw t)).wp fun v w' ⟨hg, hv⟩ => ?_
        refine ih (r1 ++ r2) _ (upE E o.dst (V v)) _ w' hlen hRR (fun t w w' => ?_) (hw.trans hg) (fun t => ?_) (by rw [List.map_append]; exact hd.1 hwant v ⟨w', hv⟩)
        · unfold upE
          split
          · exact hst v w w'
          · exact hE t w w'
        · unfold upE
          split
          · exact hv
          · exact hE t _ _ (hEw t) hg
      · rw [if_neg hwant]
        refine ih (r1 ++ r2) _ (upE E o.dst (fun _ => True)) _ w hlen hRR (fun t w w' => ?_) hw (fun t => ?_) (by rw [List.map_append]; exact hd.2 hwant)
        · unfold upE
          split
          · exact fun h _ => h
          · exact hE t w w'
        · unfold upE
          split
          · trivial
          · exact hEw t

/-- A region of open order: n operations in the order of the text, each with what is known of its value; g more that come one behind the other. -/
theorem wp_region_head0 {id : Nat} {Q : Exit → Act → World → Prop} {a : Act} {w : World} {l : List Oper} (n g : Nat) (Vs : List (Value → World → Prop)) (hn : Vs.length = n) (hm : P.follows .mixedOrders = true) (hok : okB .any l.toArray n g = true)
    (h : Head0 P l.toArray w (fun E a' => ∀ w', Grow w w' → (∀ t, E t w') → wpList P l.toArray Q (l.drop n) a' w') ((l.take n).zip Vs) (fun _ _ => True) a) : (Code.region id l.toArray true).wp P Q a w := by
  have hok' := hok
  simp only [okB, Bool.and_eq_true, decide_eq_true_eq] at hok'
  obtain ⟨⟨⟨⟨_, hsz⟩, _⟩, _⟩, _⟩ := hok'
  have hsz' : n + g = l.length := by simpa using hsz
  refine wp_region_any hm ?_
  have hz : ((List.range n).zip ((l.take n).zip Vs)).map (·.2) = (l.take n).zip Vs := by
    rw [List.map_snd_zip]
    simp
    omega
  have hzl : ((List.range n).zip ((l.take n).zip Vs)).length = n := by simp; omega
  have hel : ∀ x ∈ (List.range n).zip ((l.take n).zip Vs), l[x.1]? = some x.2.1 ∧ x.1 < n := by
    intro x hx
    obtain ⟨k, hk⟩ := List.getElem?_of_mem hx
    have h1 := List.getElem?_zip_eq_some.1 hk
    have h2 := List.getElem?_zip_eq_some.1 h1.2
    have h3 := List.getElem?_eq_some_iff.1 h1.1
    obtain ⟨h4, h5⟩ := h3
    simp at h4 h5
    subst h5
    refine ⟨?_, h4⟩
    have := h2.1
    rw [List.getElem?_take, if_pos h4] at this
    exact this
  have key := any_of_head (P := P) (ops := l.toArray) (md := .any) (W := w) (Q := Q) (n := n) (g := g)
    (Qe := fun E a' => ∀ w', Grow w w' → (∀ t, E t w') → wpList P l.toArray Q (l.drop n) a' w') hok
    (fun E a' w' hq hg hE => by simpa using hq w' hg hE) n _ (Array.replicate l.toArray.size false) (fun _ _ => True) a { w with drawn := w.drawn + 1 } hzl
    ⟨⟨by simp, fun j oj _ hl => (by rw [getD_replicate_false] at hl; cases hl), fun t _ ht => getD_in (by simpa using ht) (getD_replicate_false _ _)⟩, by
      have : ((List.range n).zip ((l.take n).zip Vs)).map (·.1) = List.range n := by
        rw [List.map_fst_zip]
        simp
        omega
      rw [this]
      exact List.pairwise_lt_range, fun i hi => by
      refine ⟨fun _ => ?_, fun _ => getD_in (by simp; omega) (getD_replicate_false _ _)⟩
      have hi' : i < ((List.range n).zip ((l.take n).zip Vs)).length := by rw [hzl]; exact hi
      exact ⟨_, List.getElem_mem hi', by simp⟩, fun x hx => by simpa using hel x hx⟩
    (fun _ _ _ h _ => h) (Below.drew (Below.refl _ _)) (fun _ => trivial) (by rw [hz]; exact h)
  have e : n + g = l.toArray.size := by simpa using hsz'
  rw [e] at key
  exact key

theorem upE_same {E : Tmp → World → Prop} {d : Option Tmp} (h : ∀ t, d = some t → ∀ w, E t w) : upE E d (fun _ => True) = E := by
  funext t w
  unfold upE
  by_cases h1 : d = some t
  · rw [if_pos h1]
    exact (propext ⟨fun _ => h t h1 w, fun _ => trivial⟩)
  · rw [if_neg h1]

theorem head_nil0 {E : Tmp → World → Prop} {a : Act} (h : Qe E a) : Head0 P ops W Qe [] E a := h

/-- A value that hangs on nothing that is made meanwhile; the world stays. -/
theorem head_val0 {o : Oper} {r : List (Oper × (Value → World → Prop))} {E : Tmp → World → Prop} {a : Act} {v : Value} (hwant : Region.wanted o (yielded ops a.tmps) = true) (hE : ∀ t, o.dst = some t → ∀ w, E t w)
    (hdo : ∀ w, Grow W w → (∀ t ∈ o.looksAt ops, E t w) → (execOp a.eval o).run P w = .ok (.value v) w) (h : Head0 P ops W Qe r E (a.put o.dst v)) : Head0 P ops W Qe ((o, fun x _ => x = v) :: r) E a := by
  simp only [Head0, hwant, if_true]
  refine ⟨fun _ _ _ h _ => h, fun w hw hl => ?_, fun u ⟨_, hu⟩ => ?_⟩
  · unfold Does
    rw [hdo w hw hl]
    exact ⟨Below.refl _ _, rfl⟩
  · subst hu
    have : (fun _ : World => u = u) = fun _ => True := by funext w; simp
    rw [this, upE_same hE]
    exact h

/-- A call that hands back a known value; memory may grow. -/
theorem head_call0 {o : Oper} {r : List (Oper × (Value → World → Prop))} {E : Tmp → World → Prop} {a : Act} {v : Value} {f : FuncId} {args : Array Value} (hwant : Region.wanted o (yielded ops a.tmps) = true) (hE : ∀ t, o.dst = some t → ∀ w, E t w)
    (hrun : ∀ w, (execOp a.eval o).run P w = .ok (.enter f args) w) (hc : ∀ w, Grow W w → (∀ t ∈ o.looksAt ops, E t w) → Calls P f args w fun e w' => e = .returned v ∧ Below w.heap.size w w')
    (h : Head0 P ops W Qe r E (a.put o.dst v)) : Head0 P ops W Qe ((o, fun x _ => x = v) :: r) E a := by
  simp only [Head0, hwant, if_true]
  refine ⟨fun _ _ _ h _ => h, fun w hw hl => ?_, fun u ⟨_, hu⟩ => ?_⟩
  · unfold Does
    rw [hrun w]
    exact Calls.mono (hc w hw hl) fun e w' ⟨he, hb⟩ => ⟨v, he, hb, rfl⟩
  · subst hu
    have : (fun _ : World => u = u) = fun _ => True := by funext w; simp
    rw [this, upE_same hE]
    exact h

/-- A value of which something is known that lasts. -/
theorem head_abs0 {o : Oper} {r : List (Oper × (Value → World → Prop))} {E : Tmp → World → Prop} {a : Act} {V : Value → World → Prop} (hwant : Region.wanted o (yielded ops a.tmps) = true) (hst : ∀ v w w', V v w → Grow w w' → V v w')
    (hdo : ∀ w, Grow W w → (∀ t ∈ o.looksAt ops, E t w) → Does P o a w (fun v w' => Grow w w' ∧ V v w')) (h : ∀ v, (∃ w, V v w) → Head0 P ops W Qe r (upE E o.dst (V v)) (a.put o.dst v)) : Head0 P ops W Qe ((o, V) :: r) E a := by
  simp only [Head0, hwant, if_true]
  exact ⟨hst, hdo, h⟩

theorem does_call {o : Oper} {a : Act} {w : World} {V : Value → World → Prop} {f : FuncId} {args : Array Value} (hrun : (execOp a.eval o).run P w = .ok (.enter f args) w)
    (hc : Calls P f args w fun e w' => ∃ v, e = .returned v ∧ V v w') : Does P o a w V := by
  unfold Does
  rw [hrun]
  exact hc

theorem does_val {o : Oper} {a : Act} {w w' : World} {V : Value → World → Prop} {v : Value} (hrun : (execOp a.eval o).run P w = .ok (.value v) w') (hv : V v w') : Does P o a w V := by
  unfold Does
  rw [hrun]
  exact hv

/-- An operation that isn't carried out. -/
theorem head_skip0 {o : Oper} {r : List (Oper × (Value → World → Prop))} {E : Tmp → World → Prop} {a : Act} {V : Value → World → Prop} (hwant : Region.wanted o (yielded ops a.tmps) = false) (hE : ∀ t, o.dst = some t → ∀ w, E t w)
    (h : Head0 P ops W Qe r E (a.put o.dst undef)) : Head0 P ops W Qe ((o, V) :: r) E a := by
  simp only [Head0, hwant, Bool.false_eq_true, if_false]
  rw [upE_same hE]
  exact h
/-- The walk in the order of the text, closed to evaluation. -/
structure Head (P : Program) (ops : Array Oper) (W : World) (Qe : (Tmp → World → Prop) → Act → Prop) (l : List (Oper × (Value → World → Prop))) (E : Tmp → World → Prop) (a : Act) : Prop where
  out : Head0 P ops W Qe l E a
theorem wp_region_head {id : Nat} {Q : Exit → Act → World → Prop} {a : Act} {w : World} {l : List Oper} (n g : Nat) (Vs : List (Value → World → Prop)) (hn : Vs.length = n) (hm : P.follows .mixedOrders = true) (hok : okB .any l.toArray n g = true)
    (h : Head P l.toArray w (fun E a' => ∀ w', Grow w w' → (∀ t, E t w') → wpList P l.toArray Q (l.drop n) a' w') ((l.take n).zip Vs) (fun _ _ => True) a) : (Code.region id l.toArray true).wp P Q a w :=
  wp_region_head0 n g Vs hn hm hok h.out
theorem head_nil {E : Tmp → World → Prop} {a : Act} (h : Qe E a) : Head P ops W Qe [] E a := ⟨head_nil0 h⟩
theorem head_val {o : Oper} {r : List (Oper × (Value → World → Prop))} {E : Tmp → World → Prop} {a : Act} {v : Value} (hwant : Region.wanted o (yielded ops a.tmps) = true) (hE : ∀ t, o.dst = some t → ∀ w, E t w)
    (hdo : ∀ w, Grow W w → (∀ t ∈ o.looksAt ops, E t w) → (execOp a.eval o).run P w = .ok (.value v) w) (h : Head P ops W Qe r E (a.put o.dst v)) : Head P ops W Qe ((o, fun x _ => x = v) :: r) E a := ⟨head_val0 hwant hE hdo h.out⟩
theorem head_call {o : Oper} {r : List (Oper × (Value → World → Prop))} {E : Tmp → World → Prop} {a : Act} {v : Value} {f : FuncId} {args : Array Value} (hwant : Region.wanted o (yielded ops a.tmps) = true) (hE : ∀ t, o.dst = some t → ∀ w, E t w)
    (hrun : ∀ w, (execOp a.eval o).run P w = .ok (.enter f args) w) (hc : ∀ w, Grow W w → (∀ t ∈ o.looksAt ops, E t w) → Calls P f args w fun e w' => e = .returned v ∧ Below w.heap.size w w')
    (h : Head P ops W Qe r E (a.put o.dst v)) : Head P ops W Qe ((o, fun x _ => x = v) :: r) E a := ⟨head_call0 hwant hE hrun hc h.out⟩
theorem head_abs {o : Oper} {r : List (Oper × (Value → World → Prop))} {E : Tmp → World → Prop} {a : Act} {V : Value → World → Prop} (hwant : Region.wanted o (yielded ops a.tmps) = true) (hst : ∀ v w w', V v w → Grow w w' → V v w')
    (hdo : ∀ w, Grow W w → (∀ t ∈ o.looksAt ops, E t w) → Does P o a w (fun v w' => Grow w w' ∧ V v w')) (h : ∀ v, (∃ w, V v w) → Head P ops W Qe r (upE E o.dst (V v)) (a.put o.dst v)) : Head P ops W Qe ((o, V) :: r) E a := ⟨head_abs0 hwant hst hdo fun v hv => (h v hv).out⟩
theorem head_skip {o : Oper} {r : List (Oper × (Value → World → Prop))} {E : Tmp → World → Prop} {a : Act} {V : Value → World → Prop} (hwant : Region.wanted o (yielded ops a.tmps) = false) (hE : ∀ t, o.dst = some t → ∀ w, E t w)
    (h : Head P ops W Qe r E (a.put o.dst undef)) : Head P ops W Qe ((o, V) :: r) E a := ⟨head_skip0 hwant hE h.out⟩
end
end Go.Qk
