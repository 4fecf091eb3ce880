/- Joined: QReg QBase QWordP QWord QOwn QTagP QTag QRowKit QMem. -/
import Derived.WalkKit
import Derived.StillTail
import Derived.Laws.Rows
import Derived.Laws.BytesArg
import Derived.Test.YtabkaflccaklhaaGreatProg
import Derived.WalkSpells
import Derived.WalkLawsBesides
import Derived.Deep.LoopGhost
import Derived.Deep.DeepCutAuto
import Derived.Deep.CutBlock
import Derived.Deep.DeepFit
import Derived.Lib.AppendStr
import Derived.OwnWalk
import Derived.ProofKit
import Derived.OpenShut
import Derived.ShutString
import Derived.ChangeOld
import Derived.Below
import Derived.SizedLaws
import Derived.SliceStrings
import Derived.Laws.CopyRow
import Derived.Laws.CopyOwn
import Derived.Lib.ConvBytes
import Derived.Laws.Cover3
set_option linter.unusedSimpArgs false
set_option linter.unusedVariables false
section
/-
A region of open order is walked once, in the order of its text: each operation is shown to yield a value of which something that lasts is known.
-/
namespace Go.Qk
open Go.RowKit

theorem hid {p : Prop} (h : p) : Hid p := h

/-- The world has only grown. -/
abbrev Grow (w w' : World) : Prop := Below w.heap.size w w'
theorem Grow.trans {a b c : World} (h : Grow a b) (k : Grow b c) : Grow a c :=
  Below.trans h ⟨k.os, k.tape, k.output, k.size, fun i hi => k.block i (Nat.lt_of_lt_of_le hi h.size)⟩

/-- What an operation does: it yields a value. -/
def Does (P : Program) (o : Oper) (a : Act) (w : World) (V : Value → World → Prop) : Prop :=
  match (execOp a.eval o).run P w with
  | .ok (.value v) w' => V v w'
  | .ok .skip w' => V undef w'
  | .ok (.enter f args) w' => Calls P f args w' fun e w'' => ∃ v, e = .returned v ∧ V v w''
  | .ok (.row r args) w' => Rows P r args w' V
  | _ => False

section
variable {P : Program} {ops : Array Oper} {md : Region.Mode} {W : World}

theorem Does.ex {o : Oper} {a : Act} {w : World} {V : Value → World → Prop} (h : Does P o a w V) : ∃ v w', V v w' := by
  unfold Does at h
  generalize (execOp a.eval o).run P w = r at h
  cases r with
  | ok n w' =>
    cases n <;> simp only at h
    case value v => exact ⟨v, w', h⟩
    case skip => exact ⟨_, w', h⟩
    case enter f args =>
      obtain ⟨e, w1, fr, ⟨v, _, hv⟩, _⟩ := h []
      exact ⟨v, w1, hv⟩
    case row r args =>
      obtain ⟨v, w1, hv, _⟩ := h default []
      exact ⟨v, w1, hv⟩
  | halt x w' => simp only at h

theorem Does.wp {o : Oper} {a : Act} {w : World} {V : Value → World → Prop} {K : Act → World → Prop} {Q : Exit → Act → World → Prop} (h : Does P o a w V)
    (hK : ∀ v w', V v w' → K (a.put o.dst v) w') : o.wp P a w K Q := by
  unfold Does at h
  unfold Oper.wp
  generalize (execOp a.eval o).run P w = r at h
  cases r with
  | ok n w' =>
    cases n <;> simp only [Oper.upon] at h ⊢
    case value v => exact hK _ _ h
    case skip => exact hK _ _ h
    case enter f args =>
      refine Calls.mono h fun e w'' he => ?_
      obtain ⟨v, rfl, hv⟩ := he
      exact hK _ _ hv
    case row r args => exact Rows.mono h fun v w'' hv => hK _ _ hv
  | halt x w' => simp only at h

theorem Does.mono {o : Oper} {a : Act} {w : World} {V V' : Value → World → Prop} (h : Does P o a w V) (hV : ∀ v w', V v w' → V' v w') : Does P o a w V' := by
  unfold Does at *
  generalize (execOp a.eval o).run P w = r at h
  cases r with
  | ok n w' =>
    cases n <;> simp only at h ⊢
    case value v => exact hV _ _ h
    case skip => exact hV _ _ h
    case enter f args => exact Calls.mono h fun e w'' ⟨v, he, hv⟩ => ⟨v, he, hV _ _ hv⟩
    case row r args => exact Rows.mono h fun v w'' hv => hV _ _ hv
  | halt x w' => simp only at h

theorem Does.of_same {o : Oper} {a a' : Act} {w : World} {V : Value → World → Prop} (h : Does P o a w V) (he : execOp a'.eval o = execOp a.eval o) : Does P o a' w V := by
  unfold Does at *
  rw [he]
  exact h

/-- What is known of the slots. -/
def upE (E : Tmp → World → Prop) (d : Option Tmp) (F : World → Prop) : Tmp → World → Prop := fun t => if d = some t then F else E t
theorem upE_ne {E : Tmp → World → Prop} {d : Option Tmp} {F : World → Prop} {t : Tmp} (h : d ≠ some t) : upE E d F t = E t := if_neg h
theorem upE_comm {E : Tmp → World → Prop} {d e : Option Tmp} {F G : World → Prop} (h : ∀ t, d = some t → e ≠ some t) : upE (upE E d F) e G = upE (upE E e G) d F := by
  funext t
  unfold upE
  by_cases h1 : d = some t
  · rw [if_neg (h t h1), if_pos h1, if_pos h1]
  · by_cases h2 : e = some t
    · simp [h1, h2]
    · simp [h1, h2]

/-- The walk in the order of the text. -/
def Head0 (P : Program) (ops : Array Oper) (W : World) (Qe : (Tmp → World → Prop) → Act → Prop) : List (Oper × (Value → World → Prop)) → (Tmp → World → Prop) → Act → Prop
  | [], E, a => Qe E a
  | (o, V) :: r, E, a =>
    if Region.wanted o (yielded ops a.tmps) = true then
      (∀ v w w', V v w → Grow w w' → V v w') ∧ (∀ w, Grow W w → (∀ t ∈ o.looksAt ops, E t w) → Does P o a w (fun v w' => Grow w w' ∧ V v w')) ∧
        (∀ v, (∃ w, V v w) → Head0 P ops W Qe r (upE E o.dst (V v)) (a.put o.dst v))
    else Head0 P ops W Qe r (upE E o.dst (fun _ => True)) (a.put o.dst undef)

variable {Qe : (Tmp → World → Prop) → Act → Prop}

theorem head_needs {o : Oper} {V : Value → World → Prop} {r2 : List (Oper × (Value → World → Prop))} (hs : ∀ cs b, o.op ≠ .select cs b) :
    ∀ (r1 : List (Oper × (Value → World → Prop))) (E : Tmp → World → Prop) (a : Act), (∀ p ∈ r1, p.1.apart ops o = true) → Head0 P ops W Qe (r1 ++ (o, V) :: r2) E a → Region.wanted o (yielded ops a.tmps) = true →
      (∃ w, Grow W w ∧ ∀ t, E t w) → (∀ t w w', E t w → Grow w w' → E t w') →
      (∀ v w w', V v w → Grow w w' → V v w') ∧ ∀ w, Grow W w → (∀ t ∈ o.looksAt ops, E t w) → Does P o a w (fun v w' => Grow w w' ∧ V v w') := by
  intro r1
  induction r1 with
  | nil =>
    intro E a _ h hw _ _
    simp only [List.nil_append, Head0, hw, if_true] at h
    exact ⟨h.1, h.2.1⟩
  | cons p r1 ih =>
    intro E a hap h hw hex hE
    obtain ⟨p, U⟩ := p
    have hp := hap _ List.mem_cons_self
    obtain ⟨h1, h2, h3⟩ := Oper.apart_spec hp
    simp only [List.cons_append, Head0] at h
    have same : ∀ v, execOp (a.put p.dst v).eval o = execOp a.eval o := fun v => execOp_put o hs a p.dst v h1
    have wsame : ∀ v, Region.wanted o (yielded ops (a.put p.dst v).tmps) = Region.wanted o (yielded ops a.tmps) := fun v => wanted_put o a p.dst v h1
    have look : ∀ F t, t ∈ o.looksAt ops → upE E p.dst F t = E t := fun F t ht => upE_ne (fun e => h1 t e ht)
    by_cases hpw : Region.wanted p (yielded ops a.tmps) = true
    · rw [if_pos hpw] at h
      obtain ⟨hst, hdo, hgo⟩ := h
      obtain ⟨w, hWw, hEw⟩ := hex
      obtain ⟨u, w1, hg1, hu⟩ := (hdo w hWw (fun t _ => hEw t)).ex
      have := ih (upE E p.dst (U u)) (a.put p.dst u) (fun q hq => hap q (List.mem_cons_of_mem _ hq)) (hgo u ⟨w1, hu⟩) (by rw [wsame]; exact hw)
        ⟨w1, hWw.trans hg1, fun t => by
          unfold upE
          split
          · exact hu
          · exact hE t _ _ (hEw t) hg1⟩
        (fun t w w' => by
          unfold upE
          split
          · exact hst u w w'
          · exact hE t w w')
      refine ⟨this.1, fun w hw' hl => (this.2 w hw' (fun t ht => by rw [look _ t ht]; exact hl t ht)).of_same (same u).symm⟩
    · rw [if_neg hpw] at h
      obtain ⟨w, hWw, hEw⟩ := hex
      have := ih (upE E p.dst (fun _ => True)) (a.put p.dst undef) (fun q hq => hap q (List.mem_cons_of_mem _ hq)) h (by rw [wsame]; exact hw)
        ⟨w, hWw, fun t => by
          unfold upE
          split
          · trivial
          · exact hEw t⟩
        (fun t w w' => by
          unfold upE
          split
          · exact fun h _ => h
          · exact hE t w w')
      refine ⟨this.1, fun w hw' hl => (this.2 w hw' (fun t ht => by rw [look _ t ht]; exact hl t ht)).of_same (same undef).symm⟩

theorem head_done {o : Oper} {V : Value → World → Prop} {r2 : List (Oper × (Value → World → Prop))} :
    ∀ (r1 : List (Oper × (Value → World → Prop))) (E : Tmp → World → Prop) (a : Act), (∀ p ∈ r1, p.1.apart ops o = true ∧ ∀ cs b, p.1.op ≠ .select cs b) → Head0 P ops W Qe (r1 ++ (o, V) :: r2) E a →
      (Region.wanted o (yielded ops a.tmps) = true → ∀ v, (∃ w, V v w) → Head0 P ops W Qe (r1 ++ r2) (upE E o.dst (V v)) (a.put o.dst v)) ∧
      (¬ Region.wanted o (yielded ops a.tmps) = true → Head0 P ops W Qe (r1 ++ r2) (upE E o.dst (fun _ => True)) (a.put o.dst undef)) := by
  intro r1
  induction r1 with
  | nil =>
    intro E a _ h
    simp only [List.nil_append, Head0] at h
    refine ⟨fun hw => ?_, fun hw => ?_⟩
    · rw [if_pos hw] at h; exact h.2.2
    · rw [if_neg hw] at h; exact h
  | cons p r1 ih =>
    intro E a hap h
    obtain ⟨p, U⟩ := p
    have hp := (hap _ List.mem_cons_self).1
    have hps := (hap _ List.mem_cons_self).2
    obtain ⟨h1, h2, h3⟩ := Oper.apart_spec hp
    simp only [List.cons_append, Head0] at h ⊢
    have wsame : ∀ v, Region.wanted o (yielded ops (a.put p.dst v).tmps) = Region.wanted o (yielded ops a.tmps) := fun v => wanted_put o a p.dst v h1
    have wsame' : ∀ v, Region.wanted p (yielded ops (a.put o.dst v).tmps) = Region.wanted p (yielded ops a.tmps) := fun v => wanted_put p a o.dst v h3
    have same' : ∀ v, execOp (a.put o.dst v).eval p = execOp a.eval p := fun v => execOp_put p hps a o.dst v h3
    have look : ∀ F t, t ∈ p.looksAt ops → upE E o.dst F t = E t := fun F t ht => upE_ne (fun e => h3 t e ht)
    have hh : ∀ d, o.dst = some d → p.dst ≠ some d := fun d hd hpd => h2 d hpd hd
    by_cases hpw : Region.wanted p (yielded ops a.tmps) = true
    · rw [if_pos hpw] at h
      obtain ⟨hst, hdo, hgo⟩ := h
      refine ⟨fun hw v hv => ?_, fun hw => ?_⟩
      · rw [if_pos (by rw [wsame']; exact hpw)]
        refine ⟨hst, fun w hw' hl => (hdo w hw' (fun t ht => by rw [← look _ t ht]; exact hl t ht)).of_same (same' v), fun u hu => ?_⟩
        have := (ih _ _ (fun q hq => hap q (List.mem_cons_of_mem _ hq)) (hgo u hu)).1 (by rw [wsame]; exact hw) v hv
        rw [upE_comm hh, Act.put_comm _ _ _ hh]
        exact this
      · rw [if_pos (by rw [wsame']; exact hpw)]
        refine ⟨hst, fun w hw' hl => (hdo w hw' (fun t ht => by rw [← look _ t ht]; exact hl t ht)).of_same (same' _), fun u hu => ?_⟩
        have := (ih _ _ (fun q hq => hap q (List.mem_cons_of_mem _ hq)) (hgo u hu)).2 (by rw [wsame]; exact hw)
        rw [upE_comm hh, Act.put_comm _ _ _ hh]
        exact this
    · rw [if_neg hpw] at h
      refine ⟨fun hw v hv => ?_, fun hw => ?_⟩
      · rw [if_neg (by rw [wsame']; exact hpw)]
        have := (ih _ _ (fun q hq => hap q (List.mem_cons_of_mem _ hq)) h).1 (by rw [wsame]; exact hw) v hv
        rw [upE_comm hh, Act.put_comm _ _ _ hh]
        exact this
      · rw [if_neg (by rw [wsame']; exact hpw)]
        have := (ih _ _ (fun q hq => hap q (List.mem_cons_of_mem _ hq)) h).2 (by rw [wsame]; exact hw)
        rw [upE_comm hh, Act.put_comm _ _ _ hh]
        exact this

/-- What the order of the text may be taken for: edges go back, and whoever isn't apart waits. -/
def okB (md : Region.Mode) (ops : Array Oper) (n g : Nat) : Bool :=
  Region.noSelect ops && decide (n + g = ops.size) && (decide (g = 0) || (Region.sinkB md ops n && Region.chainB md ops n)) &&
  ((List.range n).all fun j => match ops[j]? with
    | some oj => oj.after.all (fun e => !Region.binds md e || decide (e.on < j)) && (List.range j).all fun i => match ops[i]? with
      | some oi => oi.apart ops oj || Region.waitsFor md ops j i
      | none => false
    | none => false) &&
  Region.seqB md ops g n (List.replicate n true ++ List.replicate g false).toArray

structure Rest (md : Region.Mode) (ops : Array Oper) (n : Nat) (r : List (Nat × Oper × (Value → World → Prop))) (listed : Array Bool) : Prop where
  inv : HeadInv md ops n listed
  sorted : (r.map (·.1)).Pairwise (· < ·)
  mem : ∀ i, i < n → (listed.getD i true = false ↔ ∃ x ∈ r, x.1 = i)
  ops : ∀ x ∈ r, ops[x.1]? = some x.2.1 ∧ x.1 < n

theorem any_of_head {n g : Nat} {Q : Exit → Act → World → Prop} (hok : okB md ops n g = true)
    (hQ : ∀ E a w, Qe E a → Grow W w → (∀ t, E t w) → wpList P ops Q (ops.toList.drop n) a w) :
    ∀ (m : Nat) (r : List (Nat × Oper × (Value → World → Prop))) (listed : Array Bool) (E : Tmp → World → Prop) (a : Act) (w : World), r.length = m → Rest md ops n r listed →
      (∀ t w w', E t w → Grow w w' → E t w') → Grow W w → (∀ t, E t w) → Head0 P ops W Qe (r.map (·.2)) E a → wpAny P md ops Q (m + g) listed a w := by
  simp only [okB, Bool.and_eq_true, Bool.or_eq_true, decide_eq_true_eq] at hok
  obtain ⟨⟨⟨⟨hsel, hsz⟩, htail⟩, hpair⟩, hseq⟩ := hok
  have hns := fun j o (ho : ops[j]? = some o) cs b => Region.noSelect_spec hsel j o cs b ho
  have hrow : ∀ j oj, ops[j]? = some oj → j < n → (∀ e ∈ oj.after, Region.binds md e = true → e.on < j) ∧ ∀ i oi, ops[i]? = some oi → i < j → oi.apart ops oj = true ∨ Region.waitsFor md ops j i = true := by
    intro j oj hj hjn
    have h1 := List.all_eq_true.1 hpair j (List.mem_range.2 hjn)
    rw [hj] at h1
    simp only [Bool.and_eq_true] at h1
    refine ⟨fun e he hb => ?_, fun i oi hi hij => ?_⟩
    · have h2 := Array.all_eq_true_iff_forall_mem.1 h1.1 e he
      simpa [hb] using h2
    · have h2 := List.all_eq_true.1 h1.2 i (List.mem_range.2 hij)
      rw [hi] at h2
      simpa using h2
  intro m
  induction m with
  | zero =>
    intro r listed E a w hm hR hE hw hEw hH
    obtain rfl : r = [] := List.eq_nil_of_length_eq_zero hm
    have hl : listed = (List.replicate n true ++ List.replicate g false).toArray := by
      apply Array.ext
      · rw [hR.inv.size]; simp; omega
      · intro i h1 h2
        have hi : i < ops.size := by rw [← hR.inv.size]; exact h1
        by_cases hin : i < n
        · have h3 : listed.getD i true = true := by
            cases h : listed.getD i true with
            | true => rfl
            | false => obtain ⟨x, hx, _⟩ := (hR.mem i hin).1 h; cases hx
          simp [h1] at h3
          rw [h3]
          simp [hin]
        · have h3 := hR.inv.tail i (by omega) hi
          simp [h1] at h3
          rw [h3]
          simp [List.getElem_append, hin]
    have hg : (ops.toList.drop n).length = g := by simp; omega
    have := wpAny_of_seq (md := md) (P := P) (ops := ops) (Q' := Q) (ops.toList.drop n) n listed a w (fun j => by simp [List.getElem?_drop]) (by rw [hg, hl]; exact hseq) (hQ E a w hH hw hEw)
    rw [hg] at this
    rw [Nat.zero_add]
    exact this
  | succ m ih =>
    intro r listed E a w hm hR hE hw hEw hH
    have hne : ∃ x, x ∈ r := by
      cases r with
      | nil => simp at hm
      | cons x r => exact ⟨x, List.mem_cons_self⟩
    rw [show m + 1 + g = (m + g) + 1 by omega]
    refine ⟨fun hr => ?_, fun j hj => ?_⟩
    · exfalso
      -- the first of the rest is ready
      cases r with
      | nil => simp at hm
      | cons x r =>
        obtain ⟨hox, hxn⟩ := hR.ops x List.mem_cons_self
        have hun := (hR.mem x.1 hxn).2 ⟨x, List.mem_cons_self, rfl⟩
        have hin : x.1 ∈ Region.ready md ops listed := by
          refine mem_ready.2 ⟨hun, x.2.1, hox, fun e he hb => ?_⟩
          have hlt := (hrow x.1 x.2.1 hox hxn).1 e he hb
          cases h : listed.getD e.on false with
          | true => rfl
          | false =>
            have h2 := getD_in (by rw [hR.inv.size]; have := (Array.getElem?_eq_some_iff.1 hox).1; omega) h
            obtain ⟨y, hy, hye⟩ := (hR.mem e.on (by omega)).1 h2
            rcases List.mem_cons.1 hy with rfl | hy
            · omega
            · have := List.rel_of_pairwise_cons (by simpa using hR.sorted) (List.mem_map_of_mem (f := fun x => x.1) hy)
              omega
        rw [hr] at hin
        cases hin
    · obtain ⟨x0, hx0⟩ := hne
      obtain ⟨hjun, oj, hoj, hall⟩ := mem_ready.1 hj
      have hjs : j < ops.size := (Array.getElem?_eq_some_iff.1 hoj).1
      have hjn : j < n := by
        rcases htail with h0 | ⟨hs, hc⟩
        · omega
        · rcases Nat.lt_or_ge j n with h | h
          · exact h
          · exfalso
            obtain ⟨_, hx0n⟩ := hR.ops x0 hx0
            exact tail_waits hs hc (by omega) hR.inv (n - x0.1) x0.1 rfl hx0n ((hR.mem x0.1 hx0n).2 ⟨x0, hx0, rfl⟩) j h hj
      obtain ⟨x, hx, hxj⟩ := (hR.mem j hjn).1 hjun
      obtain ⟨r1, r2, rfl⟩ := List.append_of_mem hx
      obtain ⟨j', o, V⟩ := x
      simp only at hxj
      subst hxj
      have hoo : o = oj := Option.some.inj ((hR.ops _ hx).1.symm.trans hoj)
      subst hoo
      have hlt1 : ∀ p ∈ r1, p.1 < j' := by
        intro p hp
        have h1 := hR.sorted
        rw [List.map_append, List.pairwise_append] at h1
        exact h1.2.2 p.1 (List.mem_map_of_mem (f := fun x => x.1) hp) j' (by simp)
      have hlt2 : ∀ p ∈ r2, j' < p.1 := by
        intro p hp
        have h1 := hR.sorted
        rw [List.map_append, List.pairwise_append, List.map_cons] at h1
        exact List.rel_of_pairwise_cons h1.2.1 (List.mem_map_of_mem (f := fun x => x.1) hp)
      have hap : ∀ p ∈ r1, p.2.1.apart ops o = true ∧ ∀ cs b, p.2.1.op ≠ .select cs b := by
        intro p hp
        obtain ⟨hop, hpn⟩ := hR.ops p (List.mem_append_left _ hp)
        refine ⟨?_, fun cs b => hns _ _ hop cs b⟩
        rcases (hrow j' o hoj hjn).2 p.1 p.2.1 hop (hlt1 p hp) with h | h
        · exact h
        · exfalso
          obtain ⟨o', ho', e, he, hb, hon⟩ := Region.waitsFor_spec h
          have : o' = o := Option.some.inj (ho'.symm.trans hoj)
          subst this
          have h1 := hall e he hb
          have h2 := (hR.mem p.1 hpn).2 ⟨p, List.mem_append_left _ hp, rfl⟩
          rw [hon, getD_both h2] at h1
          cases h1
      have hs := fun cs b => hns j' o hoj cs b
      have hH' : Head0 P ops W Qe (r1.map (·.2) ++ (o, V) :: r2.map (·.2)) E a := by simpa using hH
      have hap' : ∀ p ∈ r1.map (·.2), p.1.apart ops o = true ∧ ∀ cs b, p.1.op ≠ .select cs b := by
        intro p hp
        obtain ⟨q, hq, rfl⟩ := List.mem_map.1 hp
        exact hap q hq
      have hRR : Rest md ops n (r1 ++ r2) (listed.setIfInBounds j' true) := by
        refine ⟨hR.inv.set hj hjn, ?_, fun i hi => ?_, fun y hy => hR.ops y ?_⟩
        · have h1 := hR.sorted
          refine h1.sublist ?_
          rw [List.map_append, List.map_append, List.map_cons]
          exact List.Sublist.append_left (List.sublist_cons_self _ _) _
        · by_cases hij : j' = i
          · subst hij
            have hjl : j' < listed.size := by rw [hR.inv.size]; exact hjs
            have h1 : (listed.setIfInBounds j' true).getD j' true = true := by simp [hjl]
            rw [h1]
            refine ⟨fun h => (by cases h), fun ⟨y, hy, hyj⟩ => ?_⟩
            rcases List.mem_append.1 hy with hy | hy
            · have := hlt1 y hy; omega
            · have := hlt2 y hy; omega
          · rw [getD_set_ne true hij, hR.mem i hi]
            constructor
            · rintro ⟨y, hy, rfl⟩
              rcases List.mem_append.1 hy with hy | hy
              · exact ⟨y, List.mem_append_left _ hy, rfl⟩
              · rcases List.mem_cons.1 hy with rfl | hy
                · exact absurd rfl hij
                · exact ⟨y, List.mem_append_right _ hy, rfl⟩
            · rintro ⟨y, hy, rfl⟩
              rcases List.mem_append.1 hy with hy | hy
              · exact ⟨y, List.mem_append_left _ hy, rfl⟩
              · exact ⟨y, List.mem_append_right _ (List.mem_cons_of_mem _ hy), rfl⟩
        · rcases List.mem_append.1 hy with hy | hy
          · exact List.mem_append_left _ hy
          · exact List.mem_append_right _ (List.mem_cons_of_mem _ hy)
      have hlen : (r1 ++ r2).length = m := by
        simp only [List.length_append, List.length_cons] at hm ⊢
        omega
      have hd := head_done (P := P) (ops := ops) (W := W) (Qe := Qe) (V := V) (r1.map (·.2)) E a hap' hH'
      unfold wpOp
      rw [hoj]
      simp only
      by_cases hwant : Region.wanted o (yielded ops a.tmps) = true
      · rw [if_pos hwant]
        left
        obtain ⟨hst, hdo⟩ := head_needs (P := P) (ops := ops) (W := W) (Qe := Qe) hs (r1.map (·.2)) E a (fun p hp => (hap' p hp).1) hH' hwant ⟨w, hw, hEw⟩ hE
        refine (hdo w hw (fun t _ => hEw t)).wp fun v w' ⟨hg, hv⟩ => ?_
        refine ih (r1 ++ r2) _ (upE E o.dst (V v)) _ w' hlen hRR (fun t w w' => ?_) (hw.trans hg) (fun t => ?_) (by rw [List.map_append]; exact hd.1 hwant v ⟨w', hv⟩)
        · unfold upE
          split
          · exact hst v w w'
          · exact hE t w w'
        · unfold upE
          split
          · exact hv
          · exact hE t _ _ (hEw t) hg
      · rw [if_neg hwant]
        refine ih (r1 ++ r2) _ (upE E o.dst (fun _ => True)) _ w hlen hRR (fun t w w' => ?_) hw (fun t => ?_) (by rw [List.map_append]; exact hd.2 hwant)
        · unfold upE
          split
          · exact fun h _ => h
          · exact hE t w w'
        · unfold upE
          split
          · trivial
          · exact hEw t

/-- A region of open order: n operations in the order of the text, each with what is known of its value; g more that come one behind the other. -/
theorem wp_region_head0 {id : Nat} {Q : Exit → Act → World → Prop} {a : Act} {w : World} {l : List Oper} (n g : Nat) (Vs : List (Value → World → Prop)) (hn : Vs.length = n) (hm : P.follows .mixedOrders = true) (hok : okB .any l.toArray n g = true)
    (h : Head0 P l.toArray w (fun E a' => ∀ w', Grow w w' → (∀ t, E t w') → wpList P l.toArray Q (l.drop n) a' w') ((l.take n).zip Vs) (fun _ _ => True) a) : (Code.region id l.toArray true).wp P Q a w := by
  have hok' := hok
  simp only [okB, Bool.and_eq_true, decide_eq_true_eq] at hok'
  obtain ⟨⟨⟨⟨_, hsz⟩, _⟩, _⟩, _⟩ := hok'
  have hsz' : n + g = l.length := by simpa using hsz
  refine wp_region_any hm ?_
  have hz : ((List.range n).zip ((l.take n).zip Vs)).map (·.2) = (l.take n).zip Vs := by
    rw [List.map_snd_zip]
    simp
    omega
  have hzl : ((List.range n).zip ((l.take n).zip Vs)).length = n := by simp; omega
  have hel : ∀ x ∈ (List.range n).zip ((l.take n).zip Vs), l[x.1]? = some x.2.1 ∧ x.1 < n := by
    intro x hx
    obtain ⟨k, hk⟩ := List.getElem?_of_mem hx
    have h1 := List.getElem?_zip_eq_some.1 hk
    have h2 := List.getElem?_zip_eq_some.1 h1.2
    have h3 := List.getElem?_eq_some_iff.1 h1.1
    obtain ⟨h4, h5⟩ := h3
    simp at h4 h5
    subst h5
    refine ⟨?_, h4⟩
    have := h2.1
    rw [List.getElem?_take, if_pos h4] at this
    exact this
  have key := any_of_head (P := P) (ops := l.toArray) (md := .any) (W := w) (Q := Q) (n := n) (g := g)
    (Qe := fun E a' => ∀ w', Grow w w' → (∀ t, E t w') → wpList P l.toArray Q (l.drop n) a' w') hok
    (fun E a' w' hq hg hE => by simpa using hq w' hg hE) n _ (Array.replicate l.toArray.size false) (fun _ _ => True) a { w with drawn := w.drawn + 1 } hzl
    ⟨⟨by simp, fun j oj _ hl => (by rw [getD_replicate_false] at hl; cases hl), fun t _ ht => getD_in (by simpa using ht) (getD_replicate_false _ _)⟩, by
      have : ((List.range n).zip ((l.take n).zip Vs)).map (·.1) = List.range n := by
        rw [List.map_fst_zip]
        simp
        omega
      rw [this]
      exact List.pairwise_lt_range, fun i hi => by
      refine ⟨fun _ => ?_, fun _ => getD_in (by simp; omega) (getD_replicate_false _ _)⟩
      have hi' : i < ((List.range n).zip ((l.take n).zip Vs)).length := by rw [hzl]; exact hi
      exact ⟨_, List.getElem_mem hi', by simp⟩, fun x hx => by simpa using hel x hx⟩
    (fun _ _ _ h _ => h) (Below.drew (Below.refl _ _)) (fun _ => trivial) (by rw [hz]; exact h)
  have e : n + g = l.toArray.size := by simpa using hsz'
  rw [e] at key
  exact key

theorem upE_same {E : Tmp → World → Prop} {d : Option Tmp} (h : ∀ t, d = some t → ∀ w, E t w) : upE E d (fun _ => True) = E := by
  funext t w
  unfold upE
  by_cases h1 : d = some t
  · rw [if_pos h1]
    exact (propext ⟨fun _ => h t h1 w, fun _ => trivial⟩)
  · rw [if_neg h1]

theorem head_nil0 {E : Tmp → World → Prop} {a : Act} (h : Qe E a) : Head0 P ops W Qe [] E a := h

/-- A value that hangs on nothing that is made meanwhile; the world stays. -/
theorem head_val0 {o : Oper} {r : List (Oper × (Value → World → Prop))} {E : Tmp → World → Prop} {a : Act} {v : Value} (hwant : Region.wanted o (yielded ops a.tmps) = true) (hE : ∀ t, o.dst = some t → ∀ w, E t w)
    (hdo : ∀ w, Grow W w → (∀ t ∈ o.looksAt ops, E t w) → (execOp a.eval o).run P w = .ok (.value v) w) (h : Head0 P ops W Qe r E (a.put o.dst v)) : Head0 P ops W Qe ((o, fun x _ => x = v) :: r) E a := by
  simp only [Head0, hwant, if_true]
  refine ⟨fun _ _ _ h _ => h, fun w hw hl => ?_, fun u ⟨_, hu⟩ => ?_⟩
  · unfold Does
    rw [hdo w hw hl]
    exact ⟨Below.refl _ _, rfl⟩
  · subst hu
    have : (fun _ : World => u = u) = fun _ => True := by funext w; simp
    rw [this, upE_same hE]
    exact h

/-- A call that hands back a known value; memory may grow. -/
theorem head_call0 {o : Oper} {r : List (Oper × (Value → World → Prop))} {E : Tmp → World → Prop} {a : Act} {v : Value} {f : FuncId} {args : Array Value} (hwant : Region.wanted o (yielded ops a.tmps) = true) (hE : ∀ t, o.dst = some t → ∀ w, E t w)
    (hrun : ∀ w, (execOp a.eval o).run P w = .ok (.enter f args) w) (hc : ∀ w, Grow W w → (∀ t ∈ o.looksAt ops, E t w) → Calls P f args w fun e w' => e = .returned v ∧ Below w.heap.size w w')
    (h : Head0 P ops W Qe r E (a.put o.dst v)) : Head0 P ops W Qe ((o, fun x _ => x = v) :: r) E a := by
  simp only [Head0, hwant, if_true]
  refine ⟨fun _ _ _ h _ => h, fun w hw hl => ?_, fun u ⟨_, hu⟩ => ?_⟩
  · unfold Does
    rw [hrun w]
    exact Calls.mono (hc w hw hl) fun e w' ⟨he, hb⟩ => ⟨v, he, hb, rfl⟩
  · subst hu
    have : (fun _ : World => u = u) = fun _ => True := by funext w; simp
    rw [this, upE_same hE]
    exact h

/-- A value of which something is known that lasts. -/
theorem head_abs0 {o : Oper} {r : List (Oper × (Value → World → Prop))} {E : Tmp → World → Prop} {a : Act} {V : Value → World → Prop} (hwant : Region.wanted o (yielded ops a.tmps) = true) (hst : ∀ v w w', V v w → Grow w w' → V v w')
    (hdo : ∀ w, Grow W w → (∀ t ∈ o.looksAt ops, E t w) → Does P o a w (fun v w' => Grow w w' ∧ V v w')) (h : ∀ v, (∃ w, V v w) → Head0 P ops W Qe r (upE E o.dst (V v)) (a.put o.dst v)) : Head0 P ops W Qe ((o, V) :: r) E a := by
  simp only [Head0, hwant, if_true]
  exact ⟨hst, hdo, h⟩

theorem does_call {o : Oper} {a : Act} {w : World} {V : Value → World → Prop} {f : FuncId} {args : Array Value} (hrun : (execOp a.eval o).run P w = .ok (.enter f args) w)
    (hc : Calls P f args w fun e w' => ∃ v, e = .returned v ∧ V v w') : Does P o a w V := by
  unfold Does
  rw [hrun]
  exact hc

theorem does_val {o : Oper} {a : Act} {w w' : World} {V : Value → World → Prop} {v : Value} (hrun : (execOp a.eval o).run P w = .ok (.value v) w') (hv : V v w') : Does P o a w V := by
  unfold Does
  rw [hrun]
  exact hv

/-- An operation that isn't carried out. -/
theorem head_skip0 {o : Oper} {r : List (Oper × (Value → World → Prop))} {E : Tmp → World → Prop} {a : Act} {V : Value → World → Prop} (hwant : Region.wanted o (yielded ops a.tmps) = false) (hE : ∀ t, o.dst = some t → ∀ w, E t w)
    (h : Head0 P ops W Qe r E (a.put o.dst undef)) : Head0 P ops W Qe ((o, V) :: r) E a := by
  simp only [Head0, hwant, Bool.false_eq_true, if_false]
  rw [upE_same hE]
  exact h
/-- The walk in the order of the text, closed to evaluation. -/
structure Head (P : Program) (ops : Array Oper) (W : World) (Qe : (Tmp → World → Prop) → Act → Prop) (l : List (Oper × (Value → World → Prop))) (E : Tmp → World → Prop) (a : Act) : Prop where
  out : Head0 P ops W Qe l E a
theorem wp_region_head {id : Nat} {Q : Exit → Act → World → Prop} {a : Act} {w : World} {l : List Oper} (n g : Nat) (Vs : List (Value → World → Prop)) (hn : Vs.length = n) (hm : P.follows .mixedOrders = true) (hok : okB .any l.toArray n g = true)
    (h : Head P l.toArray w (fun E a' => ∀ w', Grow w w' → (∀ t, E t w') → wpList P l.toArray Q (l.drop n) a' w') ((l.take n).zip Vs) (fun _ _ => True) a) : (Code.region id l.toArray true).wp P Q a w :=
  wp_region_head0 n g Vs hn hm hok h.out
theorem head_nil {E : Tmp → World → Prop} {a : Act} (h : Qe E a) : Head P ops W Qe [] E a := ⟨head_nil0 h⟩
theorem head_val {o : Oper} {r : List (Oper × (Value → World → Prop))} {E : Tmp → World → Prop} {a : Act} {v : Value} (hwant : Region.wanted o (yielded ops a.tmps) = true) (hE : ∀ t, o.dst = some t → ∀ w, E t w)
    (hdo : ∀ w, Grow W w → (∀ t ∈ o.looksAt ops, E t w) → (execOp a.eval o).run P w = .ok (.value v) w) (h : Head P ops W Qe r E (a.put o.dst v)) : Head P ops W Qe ((o, fun x _ => x = v) :: r) E a := ⟨head_val0 hwant hE hdo h.out⟩
theorem head_call {o : Oper} {r : List (Oper × (Value → World → Prop))} {E : Tmp → World → Prop} {a : Act} {v : Value} {f : FuncId} {args : Array Value} (hwant : Region.wanted o (yielded ops a.tmps) = true) (hE : ∀ t, o.dst = some t → ∀ w, E t w)
    (hrun : ∀ w, (execOp a.eval o).run P w = .ok (.enter f args) w) (hc : ∀ w, Grow W w → (∀ t ∈ o.looksAt ops, E t w) → Calls P f args w fun e w' => e = .returned v ∧ Below w.heap.size w w')
    (h : Head P ops W Qe r E (a.put o.dst v)) : Head P ops W Qe ((o, fun x _ => x = v) :: r) E a := ⟨head_call0 hwant hE hrun hc h.out⟩
theorem head_abs {o : Oper} {r : List (Oper × (Value → World → Prop))} {E : Tmp → World → Prop} {a : Act} {V : Value → World → Prop} (hwant : Region.wanted o (yielded ops a.tmps) = true) (hst : ∀ v w w', V v w → Grow w w' → V v w')
    (hdo : ∀ w, Grow W w → (∀ t ∈ o.looksAt ops, E t w) → Does P o a w (fun v w' => Grow w w' ∧ V v w')) (h : ∀ v, (∃ w, V v w) → Head P ops W Qe r (upE E o.dst (V v)) (a.put o.dst v)) : Head P ops W Qe ((o, V) :: r) E a := ⟨head_abs0 hwant hst hdo fun v hv => (h v hv).out⟩
theorem head_skip {o : Oper} {r : List (Oper × (Value → World → Prop))} {E : Tmp → World → Prop} {a : Act} {V : Value → World → Prop} (hwant : Region.wanted o (yielded ops a.tmps) = false) (hE : ∀ t, o.dst = some t → ∀ w, E t w)
    (h : Head P ops W Qe r E (a.put o.dst undef)) : Head P ops W Qe ((o, V) :: r) E a := ⟨head_skip0 hwant hE h.out⟩
end
end Go.Qk
end
section
/- Bytes as lists; blocks of cells. -/
namespace Go.Qk
open Go.RowKit

/-- A byte of a list, as a number. -/
def b8 (l : List UInt8) (k : Nat) : Int := ((l.getD k 0).toNat : Int)
theorem b8_lo (l : List UInt8) (k : Nat) : 0 ≤ b8 l k := by unfold b8; omega
theorem b8_hi (l : List UInt8) (k : Nat) : b8 l k ≤ 255 := by unfold b8; have := (l.getD k 0).toNat_lt; omega
def u8s (l : List UInt8) : List Value := l.map fun b => .int .u8 (b.toNat : Int)
theorem u8s_length (l : List UInt8) : (u8s l).length = l.length := by simp [u8s]
theorem u8s_get (l : List UInt8) (k : Nat) (h : k < l.length) : (u8s l)[k]? = some (.int .u8 (b8 l k)) := by
  simp [u8s, b8, List.getElem?_eq_getElem h]
theorem u8s_append (l m : List UInt8) : u8s (l ++ m) = u8s l ++ u8s m := by simp [u8s]
theorem u8s_one (l : List UInt8) : ∀ u ∈ u8s l, u.oneCell' = true := by
  intro u hu
  obtain ⟨b, _, rfl⟩ := List.mem_map.1 hu
  rfl
/-- An id, as a value. -/
def idV (l : List UInt8) : Value := .agg (u8s l).toArray
theorem u8_eq {a b : UInt8} : ((a.toNat : Int) = (b.toNat : Int)) ↔ a = b := by
  constructor
  · intro h; exact UInt8.toNat_inj.1 (by omega)
  · rintro rfl; rfl
theorem b8_eq (l m : List UInt8) (k : Nat) : b8 l k = b8 m k ↔ l.getD k 0 = m.getD k 0 := u8_eq
theorem b8_lt (l m : List UInt8) (k : Nat) : b8 l k < b8 m k ↔ l.getD k 0 < m.getD k 0 := by
  unfold b8; rw [UInt8.lt_iff_toNat_lt]; omega

/-- A block that stays. -/
theorem grow_block {w w' : World} {g : Nat} {o : Obj} (h : w.heap[g]? = some o) (hg : Grow w w') : w'.heap[g]? = some o := by
  rw [hg.block g (Array.getElem?_eq_some_iff.1 h).1]; exact h
theorem grow_cell {w w' : World} {a : Addr} {v : Value} (h : w.cell? a = some v) (hg : Grow w w') : w'.cell? a = some v :=
  (hg.cell (block_lt_of_cell h)).trans h
theorem cell_u8 {w w' : World} {g : Nat} {l : List UInt8} {t : TypeId} (h : w.heap[g]? = some (.cells (u8s l).toArray t (0, 0))) (hg : Grow w w') (k : Nat) (hk : k < l.length) :
    w'.cell? ⟨g, k, none⟩ = some (.int .u8 (b8 l k)) := by
  rw [cell_of_row w' g k _ t (0, 0) (grow_block h hg)]
  simpa using u8s_get l k hk
theorem below_grow {B : Nat} {w w1 w2 : World} (h : Below B w w1) (hB : B ≤ w1.heap.size) (k : Grow w1 w2) : Below B w w2 :=
  h.trans ⟨k.os, k.tape, k.output, k.size, fun i hi => k.block i (Nat.lt_of_lt_of_le hi hB)⟩
theorem grow_refl (w : World) : Grow w w := Below.refl _ _
theorem grow_drew (w : World) : Grow w w.drew := (Below.refl _ _).drew
theorem grow_alloc (w : World) (o : Obj) : Grow w (w.alloc o) := (Below.refl _ _).alloc (Nat.le_refl _) o
theorem Grow.drew' {w w' : World} (h : Grow w w') : Grow w w'.drew := Below.drew h
theorem Grow.alloc' {w w' : World} (h : Grow w w') (o : Obj) : Grow w (w'.alloc o) := Below.alloc h h.size o

/-- Byte by byte. -/
def lexLess : List UInt8 → List UInt8 → Bool
  | a :: l, b :: m => if a = b then lexLess l m else decide (a < b)
  | _, _ => false
theorem lexLess_at : ∀ (k : Nat) (l m : List UInt8), k < l.length → k < m.length → l.take k = m.take k → l.getD k 0 ≠ m.getD k 0 → lexLess l m = decide (l.getD k 0 < m.getD k 0)
  | 0, a :: l, b :: m, _, _, _, hne => by simp at hne; simp [lexLess, hne]
  | k + 1, a :: l, b :: m, h1, h2, ht, hne => by
    simp at ht h1 h2
    obtain ⟨rfl, ht⟩ := ht
    simp only [lexLess, if_true, List.getD_cons_succ]
    exact lexLess_at k l m h1 h2 ht (by simpa using hne)
theorem lexLess_self : ∀ l : List UInt8, lexLess l l = false
  | [] => rfl
  | a :: l => by simp [lexLess, lexLess_self l]
theorem take_step {l m : List UInt8} {k : Nat} (h1 : k < l.length) (h2 : k < m.length) (ht : l.take k = m.take k) (he : l.getD k 0 = m.getD k 0) : l.take (k + 1) = m.take (k + 1) := by
  rw [List.take_succ_eq_append_getElem h1, List.take_succ_eq_append_getElem h2, ht]
  simp [h1, h2] at he
  rw [he]
theorem ret_bool {a b : Bool} (h : a = b) : Ending.returned (.bool a) = .returned (.bool b) := by rw [h]
theorem ret_int {k : IntKind} {a b : Int} (h : a = b) : Ending.returned (.int k a) = .returned (.int k b) := by rw [h]
end Go.Qk
end
section
/- Numbers as bytes; bytes and strings. -/
namespace Go.Qk
open Go.RowKit

/-- A string out of bytes, and back. -/
def bs (l : List UInt8) : ByteArray := ⟨l.toArray⟩
def bl (s : ByteArray) : List UInt8 := s.data.toList
theorem bl_bs (l : List UInt8) : bl (bs l) = l := by simp [bl, bs]
theorem bs_bl (s : ByteArray) : bs (bl s) = s := by cases s; simp [bl, bs]
theorem bs_size (l : List UInt8) : (bs l).size = l.length := by show l.toArray.size = l.length; simp
theorem bl_length (s : ByteArray) : (bl s).length = s.size := by unfold bl; rw [Array.length_toList]; rfl
theorem bs_append (l m : List UInt8) : bs l ++ bs m = bs (l ++ m) := by
  apply ByteArray.ext
  simp [bs]
theorem bs_extract (l : List UInt8) (i j : Nat) : (bs l).extract i j = bs ((l.drop i).take (j - i)) := by
  apply ByteArray.ext
  rw [ByteArray.data_extract]
  apply Array.ext'
  rw [Array.toList_extract]
  simp [bs, List.extract_eq_take_drop]
theorem bs_inj {l m : List UInt8} (h : bs l = bs m) : l = m := by rw [← bl_bs l, h, bl_bs]
theorem bl_inj {s t : ByteArray} (h : bl s = bl t) : s = t := by rw [← bs_bl s, h, bs_bl]
theorem bl_append (s t : ByteArray) : bl (s ++ t) = bl s ++ bl t := by
  rw [← bs_bl s, ← bs_bl t, bs_append, bl_bs, bl_bs, bl_bs]

theorem toList_bl (s : ByteArray) : s.toList = bl s := ByteArray.toList_eq s
theorem toList_ne {s t : ByteArray} (h : s ≠ t) : ¬ s.toList = t.toList := by rw [toList_bl, toList_bl]; exact fun e => h (bl_inj e)
theorem toList_beq_ne {s t : ByteArray} (h : s ≠ t) : (s.toList == t.toList) = false := beq_eq_false_iff_ne.2 (toList_ne h)
/-- The last n bytes of a number, the highest first. -/
def be : Nat → Nat → List UInt8
  | 0, _ => []
  | n + 1, v => be n (v / 256) ++ [UInt8.ofNat (v % 256)]
theorem be_length : ∀ n v, (be n v).length = n
  | 0, _ => rfl
  | n + 1, v => by simp [be, be_length n]
theorem be_cons : ∀ n v, be (n + 1) v = UInt8.ofNat (v / 256 ^ n % 256) :: be n v
  | 0, v => by simp [be]
  | n + 1, v => by
    rw [be, be_cons n (v / 256), Nat.div_div_eq_div_mul, be]
    rw [show 256 * 256 ^ n = 256 ^ (n + 1) from by rw [Nat.pow_succ, Nat.mul_comm]]
    rfl
theorem be_val : ∀ n v, v < 256 ^ n → (be n v).foldl (fun x b => x * 256 + b.toNat) 0 = v
  | 0, v, h => by simp at h; subst h; rfl
  | n + 1, v, h => by
    have h1 : v / 256 < 256 ^ n := by rw [Nat.div_lt_iff_lt_mul (by omega)]; rwa [Nat.pow_succ] at h
    rw [be, List.foldl_append, be_val n _ h1]
    simp
    omega
theorem be_inj {n v u : Nat} (hv : v < 256 ^ n) (hu : u < 256 ^ n) (h : be n v = be n u) : v = u := by
  rw [← be_val n v hv, h, be_val n u hu]
/-- What stands in the row when k bytes are still to be written. -/
def beRow (k v : Nat) : List UInt8 := List.replicate k 0 ++ be (8 - k) v
theorem beRow_length (k v : Nat) (h : k ≤ 8) : (beRow k v).length = 8 := by simp [beRow, be_length]; omega
theorem beRow_start (v : Nat) : beRow 8 v = [0, 0, 0, 0, 0, 0, 0, 0] := rfl
theorem beRow_end (v : Nat) : beRow 0 v = be 8 v := rfl
theorem u8_of (x : Nat) (h : x < 256) : ((UInt8.ofNat x).toNat : Int) = x := by simp [UInt8.toNat_ofNat]; omega
theorem beRow_step (k v : Nat) (h : k < 8) : (u8s (beRow (k + 1) v)).toArray.setIfInBounds k (.int .u8 (((v / 256 ^ (7 - k) % 256 : Nat) : Int))) = (u8s (beRow k v)).toArray := by
  have h1 : beRow k v = List.replicate k 0 ++ UInt8.ofNat (v / 256 ^ (7 - k) % 256) :: be (7 - k) v := by
    rw [beRow, show 8 - k = (7 - k) + 1 from by omega, be_cons]
  have h2 : beRow (k + 1) v = List.replicate k 0 ++ 0 :: be (7 - k) v := by
    rw [beRow, show 8 - (k + 1) = 7 - k from by omega, List.replicate_succ']
    simp
  rw [h1, h2, ← u8_of _ (Nat.mod_lt _ (by omega))]
  simp [u8s]

section
variable {P : Program} (w : World)
theorem strOfNums_b8 (l : List UInt8) : strOfNums ((List.range l.length).map (b8 l)) = bs l := by
  unfold strOfNums bs
  congr 1
  apply congrArg
  apply List.ext_getElem?
  intro i
  by_cases h : i < l.length
  · simp [b8, h]
  · simp [List.getElem?_eq_none (show l.length ≤ i by omega)]
    omega
theorem run_str (src e dst : TypeId) (hs : P.underlying src = some (.slice e)) (he : P.underlying e = some (.int .u8)) (hd : P.underlying dst = some .string) (g off cap : Nat) (l : List UInt8)
    (hcell : ∀ i, i < l.length → w.cell? ⟨g, off + i, none⟩ = some (.int .u8 (b8 l i))) (n : Nat) (hn : l.length = n) : (convert src dst (.slice (some ⟨g, off, none⟩) n cap)).run P w = .ok (.string (bs l)) w := by
  subst hn
  have := run_convert_bytes_arg (P := P) w src e hs he g off l.length cap ((List.range l.length).map (b8 l)) (by simp) (fun i hi => by
    rw [hcell i hi]
    simp [hi]) dst hd
  rw [strOfNums_b8] at this
  exact this
/-- The bytes at the head of a block. -/
theorem run_str_block (src e dst t : TypeId) (hs : P.underlying src = some (.slice e)) (he : P.underlying e = some (.int .u8)) (hd : P.underlying dst = some .string) (g cap : Nat) (l : List UInt8) (fr : Nat × Nat)
    (hg : w.heap[g]? = some (.cells (u8s l).toArray t fr)) (n : Nat) (hn : l.length = n) : (convert src dst (.slice (some ⟨g, 0, none⟩) n cap)).run P w = .ok (.string (bs l)) w :=
  run_str w src e dst hs he hd g 0 cap l (fun i hi => by
    rw [cell_of_row w g (0 + i) _ t fr hg, Nat.zero_add]
    simpa using u8s_get l i hi) n hn
end
end Go.Qk
end
section
namespace Go.Proofs.YtabkaflccaklhaaGreat
open Go.RowKit Go.Qk

set_option maxHeartbeats 400000
set_option maxRecDepth 100000
theorem infoU8 : (Tryz.prog.info? 5).map (fun i => (i.zero, i.size, i.bytes)) = some (some (.int .u8 0), 1, 1) := by kernel_rfl
theorem number8 (v : Nat) (hv : v < 18446744073709551616) (w : World) :
    Calls Tryz.prog 139 #[.int .u64 v, .int .i64 8] w fun e w' => e = .returned (.tuple #[.string (bs (be 8 v)), .bool true]) ∧ Below w.heap.size w w' := by
  have hmk : ∀ w, (Instr.makeSlice 85 (.int .i64 8) (.int .i64 8)).run Tryz.prog w = .ok (.slice (some ⟨w.heap.size, 0, none⟩) 8 8) (w.alloc (.cells (u8s (beRow 8 v)).toArray 5)) := fun _ => by kernel_rfl
  have HV := hid hv
  clear hv
  go_enter Tryz.func139, Tryz.ntmps139
  go_wp2
  go_loopg [0, 7] 9 (fun n x i wr => ∃ k : Nat, k ≤ 8 ∧ n = k + 1 ∧ i = .int .i64 ((k : Int) - 1) ∧ x = .int .u64 ((v / 256 ^ (8 - k) : Nat) : Int) ∧ Hid (wr.heap[w.heap.size]? = some (.cells (u8s (beRow k v)).toArray 5 (0, 0))) ∧ Hid (Below w.heap.size w wr))
  case atStart => exact ⟨8, by omega, by omega, rfl, by simp, heap_alloc_new _ _, (Below.refl _ _).alloc (Nat.le_refl _) _⟩
  case round =>
    obtain ⟨k, hk, hn, rfl, rfl, hg, hb⟩ := hrel
    clear hmk
    cases k with
    | zero =>
      have hcv := run_str_block (P := Tryz.prog) wr 85 5 9 5 Tryz.underlying85 Tryz.underlying5 Tryz.underlying9 w.heap.size 8 (beRow 0 v) (0, 0) hg.out 8 (beRow_length 0 v (by omega))
      go_wp2
      go_ret2
      exact ⟨rfl, hb.out⟩
    | succ k =>
      have hlt := beRow_length (k + 1) v (by omega)
      have c1 : wr.cell? ⟨w.heap.size, k, none⟩ = some (.int .u8 (b8 (beRow (k + 1) v) k)) := cell_u8 hg.out (grow_refl _) k (by omega)
      have f1 : wr.frozen? ⟨w.heap.size, k, none⟩ = false := frozen_of_row wr _ k _ _ hg.out
      go_wp2
      go_roundg (k + 1)
      case rel =>
        refine ⟨k, by omega, rfl, by go_num, ?_, ?_, (hb.out).setCell (Nat.le_refl _) _⟩
        · have e1 : ((v / 256 ^ (8 - k) : Nat) : Int) = (v : Int) / 256 ^ (7 - k) / 256 := by
            rw [show 8 - k = (7 - k) + 1 from by omega, Nat.pow_succ, ← Nat.div_div_eq_div_mul]
            simp
          rw [e1]
        · have h2 := heap_setCell_same wr w.heap.size k (u8s (beRow (k + 1) v)).toArray 5 (.int .u8 (((v / 256 ^ (7 - k) % 256 : Nat) : Int))) hg.out
          rw [beRow_step k v (by omega)] at h2
          have e1 : ((v / 256 ^ (7 - k) % 256 : Nat) : Int) = (v : Int) / 256 ^ (7 - k) % 256 := by simp
          rw [e1] at h2
          exact h2
      case measure => omega
end Go.Proofs.YtabkaflccaklhaaGreat
end
section
/- Rows of bytes of a call's own; rows of strings and of ids that are read. -/
namespace Go.Qk
open Go.RowKit

theorem own_grow {w w1 : World} {B : Nat} {e : TypeId} {sz n : Nat} {v : Value} {xs : List Value} (h : w.ownsRow B e sz v n xs) (hg : Grow w w1) : w1.ownsRow B e sz v n xs :=
  h.kept (w' := w1) (row := none) ⟨hg.os, hg.tape, hg.output, hg.size, fun i hi _ => hg.block i hi⟩ (by cases v.ownBlock <;> simp)
theorem own_block_ge {w : World} {B : Nat} {e : TypeId} {sz n : Nat} {v : Value} {xs : List Value} (h : w.ownsRow B e sz v n xs) : ∀ k, v.ownBlock = some k → B ≤ k := fun k hk => (h.lt k hk).1

theorem own_form {w : World} {B : Nat} {e : TypeId} {sz n : Nat} {v : Value} {xs : List Value} (h : w.ownsRow B e sz v n xs) (hn : 0 < n) : ∃ g cap, v = .slice (some ⟨g, 0, none⟩) n cap ∧ B ≤ g ∧ n ≤ cap := by
  rcases h.2 with ⟨_, h0⟩ | ⟨g, cap, cur, rfl, hb, _, hc, _⟩
  · omega
  · exact ⟨g, cap, rfl, hb, hc⟩
/-- A row of bytes of the call's own. -/
def Buf (e : TypeId) (B : Nat) (w : World) (v : Value) (l : List UInt8) : Prop := w.ownsRow B e 1 v l.length (u8s l)
theorem Buf.grow {e : TypeId} {B : Nat} {w w1 : World} {v : Value} {l : List UInt8} (h : Buf e B w v l) (hg : Grow w w1) : Buf e B w1 v l := own_grow h hg
theorem strCells_u8s (s : ByteArray) : Lib.strCells s = u8s (bl s) := rfl

theorem addr_add (g j : Nat) : (⟨g, 0, none⟩ : Addr).add j = ⟨g, j, none⟩ := by unfold Addr.add; split <;> simp_all
theorem cells_new (w : World) (vs : List Value) (t : TypeId) (j : Nat) (u : Value) (h : vs[j]? = some u) : (w.alloc (.cells vs.toArray t)).cell? ((⟨w.heap.size, 0, none⟩ : Addr).add j) = some u := by
  rw [addr_add, cell_of_row _ _ _ _ _ _ (heap_alloc_new _ _)]
  simpa using h

section
variable {P : Program} {w : World} {ops : Array Oper} {rest : List Oper} {o : Oper} {a : Act} {Q : Exit → Act → World → Prop} {w0 : World} {B : Nat}

theorem info_u8 {e : TypeId} (h : (P.info? e).map (fun i => (i.zero, i.size, i.bytes)) = some (some (.int .u8 0), 1, 1)) : ∃ i, P.info? e = some i ∧ i.zero = some (.int .u8 0) ∧ i.size = 1 ∧ i.bytes = 1 := info_parts h

/-- append(buf, s...) of a string. -/
theorem app_str (sl x : Operand) (t u e : TypeId) (v : Value) (l : List UInt8) (s : ByteArray) (hgd : o.guard = none) (ho : o.op = .call { callee := .builtin .append, args := #[sl, x], argTypes := #[t, u] })
    (ht : P.underlying t = some (.slice e)) (hu : P.underlying u = some .string) (hi : (P.info? e).map (fun i => (i.zero, i.size, i.bytes)) = some (some (.int .u8 0), 1, 1))
    (hs : a.eval sl = v) (hx : a.eval x = .string s) (hown : Buf e B w v l) (hb : Below B w0 w) (hB : B ≤ w.heap.size) (hlen : l.length + s.size ≤ 140737488355328)
    (h : ∀ v' w', Buf e B w' v' (l ++ bl s) → Below B w0 w' → B ≤ w'.heap.size → wpList P ops Q rest (a.put o.dst v') w') : wpList P ops Q (o :: rest) a w := by
  obtain ⟨i, h1, h2, h3, h4⟩ := info_u8 hi
  refine Lib.wpList_append_own_string w hgd sl x t u ho B e i ht hu h1 h2 h3 h4 v l.length (u8s l) hs hown s hx (by simp only [maxLen]; omega) hlen hB ?_
  intro v' w' hown' hg _
  refine h v' w' ?_ (hb.grown hg hB (own_block_ge hown)) (Nat.le_trans hB hg.size)
  unfold Buf
  rw [List.length_append, bl_length, u8s_append]
  exact hown'
/-- append(buf, bytes...) of another row's bytes. -/
theorem app_bytes (sl x : Operand) (t e : TypeId) (v : Value) (l m : List UInt8) (ad : Addr) (n c : Nat) (hgd : o.guard = none) (ho : o.op = .call { callee := .builtin .append, args := #[sl, x], argTypes := #[t, t] })
    (ht : P.underlying t = some (.slice e)) (hi : (P.info? e).map (fun i => (i.zero, i.size, i.bytes)) = some (some (.int .u8 0), 1, 1))
    (hs : a.eval sl = v) (hx : a.eval x = .slice (some ad) n c) (hn : m.length = n) (hm : ∀ i, i < m.length → w.cell? (ad.add i) = some (.int .u8 (b8 m i)))
    (hown : Buf e B w v l) (hb : Below B w0 w) (hB : B ≤ w.heap.size) (hlen : l.length + m.length ≤ 140737488355328)
    (h : ∀ v' w', Buf e B w' v' (l ++ m) → Below B w0 w' → B ≤ w'.heap.size → wpList P ops Q rest (a.put o.dst v') w') : wpList P ops Q (o :: rest) a w := by
  obtain ⟨i, h1, h2, h3, h4⟩ := info_u8 hi
  subst hn
  refine wpList_append_own w hgd sl x t ho B e i _ 1 1 ht h1 h2 h3 h4 rfl (by decide) v l.length (u8s l) hs hown ad m.length c (u8s m) hx (by rw [u8s_length]; omega) (fun j u hj => ?_) (u8s_one m) (by simp only [maxLen]; omega) (by omega) hB ?_
  · have hlt : j < m.length := by have := (List.getElem?_eq_some_iff.1 hj).1; rwa [u8s_length] at this
    rw [u8s_get m j hlt] at hj
    rw [hm j hlt]
    exact hj
  · intro v' w' hown' hg _
    refine h v' w' ?_ (hb.grown hg hB (own_block_ge hown)) (Nat.le_trans hB hg.size)
    unfold Buf
    rw [List.length_append, u8s_append]
    exact hown'
/-- append(row, cells...) of another row's cells. -/
theorem app_cells (sl x : Operand) (t e : TypeId) (z : Value) (size bytes : Nat) (v : Value) (n : Nat) (xs news : List Value) (ad : Addr) (m c : Nat) (hgd : o.guard = none) (ho : o.op = .call { callee := .builtin .append, args := #[sl, x], argTypes := #[t, t] })
    (ht : P.underlying t = some (.slice e)) (hi : (P.info? e).map (fun i => (i.zero, i.size, i.bytes)) = some (some z, size, bytes)) (hzs : z.cells.size = size) (hsz : 0 < size)
    (hs : a.eval sl = v) (hx : a.eval x = .slice (some ad) m c) (hm : news.length = m * size) (hc : ∀ j u, news[j]? = some u → w.cell? (ad.add j) = some u) (h1 : ∀ u ∈ news, u.oneCell' = true)
    (hown : w.ownsRow B e size v n xs) (hb : Below B w0 w) (hB : B ≤ w.heap.size) (hlen : (n + m) * bytes ≤ 140737488355328) (hlen' : n + m ≤ 140737488355328)
    (h : ∀ v' w', w'.ownsRow B e size v' (n + m) (xs ++ news) → Below B w0 w' → B ≤ w'.heap.size → wpList P ops Q rest (a.put o.dst v') w') : wpList P ops Q (o :: rest) a w := by
  obtain ⟨i, h2, h3, h4, h5⟩ := info_parts hi
  refine wpList_append_own w hgd sl x t ho B e i z size bytes ht h2 h3 h4 h5 hzs hsz v n xs hs hown ad m c news hx hm hc h1 (by simp only [maxLen]; omega) hlen hB ?_
  intro v' w' hown' hg _
  exact h v' w' hown' (hb.grown hg hB (own_block_ge hown)) (Nat.le_trans hB hg.size)
/-- string(buf). -/
theorem buf_str (src e dst : TypeId) (hs : P.underlying src = some (.slice e)) (he : P.underlying e = some (.int .u8)) (hd : P.underlying dst = some .string) (v : Value) (l : List UInt8) (h : Buf e B w v l) :
    (convert src dst v).run P w = .ok (.string (bs l)) w := by
  rcases h.2 with ⟨rfl, h0⟩ | ⟨g, cap, cur, rfl, _⟩
  · obtain rfl : l = [] := List.eq_nil_of_length_eq_zero h0
    exact run_convert_bytes_nil w src e hs he 0 0 dst hd
  · refine run_str w src e dst hs he hd g 0 cap l (fun i hi => ?_) l.length rfl
    have := World.ownsRow.cells h (g := g) rfl i _ (u8s_get l i hi)
    rw [← this]
    unfold Addr.add
    split <;> simp_all
end

theorem buf_alloc (w : World) (e : TypeId) (l : List UInt8) (cap : Nat) (hc : cap = l.length) (hl : l.length ≤ maxLen) : Buf e w.heap.size (w.alloc (.cells (u8s l).toArray e)) (.slice (some ⟨w.heap.size, 0, none⟩) l.length cap) l := by
  subst hc
  refine ⟨by simp [u8s_length], .inr ⟨w.heap.size, l.length, (u8s l).toArray, rfl, Nat.le_refl _, heap_alloc_new _ _, Nat.le_refl _, hl, by simp [u8s_length], ?_⟩⟩
  rw [Nat.mul_one]
  simp [← u8s_length l]
theorem buf_nil (w : World) (e : TypeId) (B : Nat) : Buf e B w (.slice none 0 0) [] := ⟨by simp [u8s], .inl ⟨rfl, rfl⟩⟩

theorem run_index_str {P : Program} (t : TypeId) (s : ByteArray) (k : Nat) (h : k < s.size) (i : Int) (hi : i = k) (w : World) (ht : P.underlying t = some .string) :
    (Instr.index t (.string s) (.int .i64 i)).run P w = .ok (.int .u8 (b8 (bl s) k)) w := by
  subst hi
  have h1 : (0 : Int) ≤ (k : Int) := by omega
  have h2 : (k : Int) < (s.size : Int) := by omega
  go_simp
  have e : (bl s).getD k 0 = s[k] := by
    simp [bl, List.getD_eq_getElem?_getD, List.getElem?_eq_getElem (show k < s.data.toList.length by rw [Array.length_toList]; exact h)]
    rfl
  simp only [b8, e]

/-- A row of strings that is read. -/
def StrRow (w : World) (A : Option Addr) (xs : List ByteArray) : Prop := xs.length ≤ 9223372036854775807 ∧ (xs ≠ [] → ∃ ad, A = some ad ∧ ∀ i, i < xs.length → w.cell? (ad.add i) = some (.string (xs.getD i ByteArray.empty)))
theorem StrRow.grow {w w1 : World} {A : Option Addr} {xs : List ByteArray} (h : StrRow w A xs) (hg : Grow w w1) : StrRow w1 A xs :=
  ⟨h.1, fun hne => by obtain ⟨ad, e, hc⟩ := h.2 hne; exact ⟨ad, e, fun i hi => grow_cell (hc i hi) hg⟩⟩
theorem StrRow.at_ {w : World} {A : Option Addr} {xs : List ByteArray} (h : StrRow w A xs) (i : Nat) (hi : i < xs.length) : ∃ ad, A = some ad ∧ w.cell? (ad.add i) = some (.string (xs.getD i ByteArray.empty)) := by
  obtain ⟨ad, e, hc⟩ := h.2 (by intro e; subst e; simp at hi)
  exact ⟨ad, e, hc i hi⟩
end Go.Qk
end
section
/- A tagged text: lists alone. -/
namespace Go.Qk
open Go.RowKit
def partsOf (xs : List ByteArray) : List UInt8 := xs.flatMap fun s => be 8 s.size ++ bl s
def textOf (name : ByteArray) (xs : List ByteArray) : List UInt8 := UInt8.ofNat name.size :: (bl name ++ partsOf xs)
theorem partsOf_snoc (xs : List ByteArray) (k : Nat) (h : k < xs.length) : partsOf (xs.take (k + 1)) = partsOf (xs.take k) ++ (be 8 (xs.getD k ByteArray.empty).size ++ bl (xs.getD k ByteArray.empty)) := by
  rw [List.take_succ_eq_append_getElem h]
  unfold partsOf
  rw [List.flatMap_append]
  simp [h]
theorem textOf_snoc (name : ByteArray) (xs : List ByteArray) (k : Nat) (h : k < xs.length) : textOf name (xs.take (k + 1)) = textOf name (xs.take k) ++ (be 8 (xs.getD k ByteArray.empty).size ++ bl (xs.getD k ByteArray.empty)) := by
  simp [textOf, partsOf_snoc xs k h]
theorem partsOf_take_le (xs : List ByteArray) (k : Nat) : (partsOf (xs.take k)).length ≤ (partsOf xs).length := by
  have : partsOf xs = partsOf (xs.take k) ++ partsOf (xs.drop k) := by simp [partsOf, ← List.flatMap_append]
  rw [this, List.length_append]
  omega
theorem textOf_take_le (name : ByteArray) (xs : List ByteArray) (k : Nat) : (textOf name (xs.take k)).length ≤ (textOf name xs).length := by
  have := partsOf_take_le xs k
  simp [textOf]
  omega
theorem textOf_nil (name : ByteArray) (xs : List ByteArray) : textOf name (xs.take 0) = [UInt8.ofNat name.size] ++ bl name := by simp [textOf, partsOf]
theorem textOf_all (name : ByteArray) (xs : List ByteArray) (k : Nat) (h : xs.length ≤ k) : textOf name (xs.take k) = textOf name xs := by rw [List.take_of_length_le h]

def longB (xs : List ByteArray) : Bool := xs.any (fun s => decide (300 < s.size)) || decide (20 < xs.length)
theorem partsOf_le : ∀ (xs : List ByteArray) (m : Nat), (∀ s ∈ xs, s.size ≤ m) → (partsOf xs).length ≤ xs.length * (m + 8)
  | [], _, _ => by simp [partsOf]
  | x :: xs, m, h => by
    have h1 := partsOf_le xs m (fun s hs => h s (List.mem_cons_of_mem _ hs))
    have h2 := h x List.mem_cons_self
    have e : partsOf (x :: xs) = (be 8 x.size ++ bl x) ++ partsOf xs := rfl
    rw [e, List.length_append, List.length_append, be_length, bl_length, List.length_cons, Nat.add_mul]
    omega
theorem textOf_small (name : ByteArray) (xs : List ByteArray) (h : longB xs = false) (hn : name.size ≤ 255) : (textOf name xs).length ≤ 140737488355328 := by
  simp only [longB, Bool.or_eq_false_iff, decide_eq_false_iff_not, List.any_eq_false, decide_eq_true_eq] at h
  have h1 := partsOf_le xs 300 (fun s hs => by have := h.1 s hs; omega)
  have h2 : xs.length * (300 + 8) ≤ 20 * 308 := Nat.mul_le_mul (by omega) (by omega)
  simp only [textOf, List.length_cons, List.length_append, bl_length]
  omega

theorem partsOf_inj : ∀ (xs ys : List ByteArray), (∀ s ∈ xs, s.size ≤ 9223372036854775807) → (∀ s ∈ ys, s.size ≤ 9223372036854775807) → partsOf xs = partsOf ys → xs = ys
  | [], [], _, _, _ => rfl
  | [], y :: ys, _, _, h => by
    have := congrArg List.length h
    simp [partsOf, be_length] at this
    omega
  | x :: xs, [], _, _, h => by
    have := congrArg List.length h
    simp [partsOf, be_length] at this
  | x :: xs, y :: ys, hx, hy, h => by
    have e : ∀ (z : ByteArray) zs, partsOf (z :: zs) = be 8 z.size ++ (bl z ++ partsOf zs) := fun z zs => by simp [partsOf]
    rw [e, e] at h
    obtain ⟨h1, h2⟩ := List.append_inj h (by rw [be_length, be_length])
    have hs := be_inj (n := 8) (by have := hx x List.mem_cons_self; omega) (by have := hy y List.mem_cons_self; omega) h1
    obtain ⟨h3, h4⟩ := List.append_inj h2 (by rw [bl_length, bl_length, hs])
    rw [bl_inj h3, partsOf_inj xs ys (fun s hs => hx s (List.mem_cons_of_mem _ hs)) (fun s hs => hy s (List.mem_cons_of_mem _ hs)) h4]
theorem textOf_inj {x y : ByteArray} {xs ys : List ByteArray} (hx : x.size ≤ 255) (hy : y.size ≤ 255) (hxs : ∀ s ∈ xs, s.size ≤ 9223372036854775807) (hys : ∀ s ∈ ys, s.size ≤ 9223372036854775807)
    (h : textOf x xs = textOf y ys) : x = y ∧ xs = ys := by
  unfold textOf at h
  injection h with h1 h2
  have hs : x.size = y.size := by
    have := congrArg UInt8.toNat h1
    simp [UInt8.toNat_ofNat] at this
    omega
  obtain ⟨h3, h4⟩ := List.append_inj h2 (by rw [bl_length, bl_length, hs])
  exact ⟨bl_inj h3, partsOf_inj xs ys hxs hys h4⟩
/-- Are the first k the same? -/
def sameTo (k : Nat) (xs ys : List ByteArray) : Bool := decide (xs.take k = ys.take k)
theorem sameTo_step {k : Nat} {xs ys : List ByteArray} (h : sameTo k xs ys = true) (hk : k < xs.length) (hk' : k < ys.length) : sameTo (k + 1) xs ys = decide (xs.getD k ByteArray.empty = ys.getD k ByteArray.empty) := by
  simp only [sameTo, decide_eq_true_eq] at h ⊢
  rw [List.take_succ_eq_append_getElem hk, List.take_succ_eq_append_getElem hk', h]
  have e1 : xs.getD k ByteArray.empty = xs[k] := by simp [hk]
  have e2 : ys.getD k ByteArray.empty = ys[k] := by simp [hk']
  rw [e1, e2, decide_eq_decide]
  exact ⟨fun h => by simpa using List.append_cancel_left h, fun h => by rw [h]⟩
theorem sameTo_false {k : Nat} {xs ys : List ByteArray} (h : sameTo k xs ys = false) : xs ≠ ys := by
  rintro rfl
  simp [sameTo] at h
theorem sameTo_all {k : Nat} {xs ys : List ByteArray} (h : sameTo k xs ys = true) (h1 : xs.length ≤ k) (h2 : xs.length = ys.length) : xs = ys := by
  simp only [sameTo, decide_eq_true_eq] at h
  rwa [List.take_of_length_le h1, List.take_of_length_le (by omega)] at h
end Go.Qk
end
section
namespace Go.Proofs.YtabkaflccaklhaaGreat
open Go.RowKit Go.Qk

set_option maxHeartbeats 400000
set_option maxRecDepth 100000
theorem tagText_long (name : ByteArray) (v : Value) (hname : 255 < name.size) (w : World) :
    Calls Tryz.prog 132 #[.string name, v] w fun e w' => e = .returned (.tuple #[.string (bs []), .int .i64 4]) ∧ Below w.heap.size w w' := by
  go_enter Tryz.func132, Tryz.ntmps132
  go_wp2
  go_ret2
  exact ⟨rfl, Below.refl _ _⟩



theorem tagText (name : ByteArray) (A : Option Addr) (n c : Nat) (xs : List ByteArray) (w : World) (hx : StrRow w A xs) (hn : xs.length = n) (hname : name.size ≤ 255) (hlen : (textOf name xs).length ≤ 140737488355328) :
    Calls Tryz.prog 132 #[.string name, .slice A n c] w fun e w' => e = .returned (.tuple #[.string (bs (textOf name xs)), .int .i64 0]) ∧ Below w.heap.size w w' := by
  subst hn
  have HX := hid hx
  have HL := hid hlen
  have hxl := hx.1
  clear hx hlen
  go_enter Tryz.func132, Tryz.ntmps132
  have hsz : (name.size : Int) % 256 = name.size := by omega
  go_wp2_with (at_builtin; refine app_str (w0 := w) (B := w.heap.size) (.tmp 18) (.tmp 19) 85 9 5 _ [UInt8.ofNat name.size] name rfl rfl Tryz.underlying85 Tryz.underlying9 infoU8 rfl rfl ?h1 ?h2 ?h3 ?h4 ?_)
  case h1 =>
    have := buf_alloc w 5 [UInt8.ofNat name.size] 1 rfl (by simp [maxLen])
    simp only [u8s, List.map_cons, List.map_nil, u8_of name.size (by omega)] at this
    exact this
  case h2 => exact (Below.refl _ _).alloc (Nat.le_refl _) _
  case h3 => simp
  case h4 => simp; omega
  intro v1 w1 hown1 hb1 hs1
  have HO := hid hown1
  have HB := hid hb1
  have HS := hid hs1
  clear hown1 hb1 hs1
  go_wp2
  go_loopg [6, 23] (xs.length + 1) (fun n v i wr => ∃ k : Nat, k ≤ xs.length ∧ n = xs.length - k + 1 ∧ i = .int .i64 k ∧ Hid (Buf 5 w.heap.size wr v (textOf name (xs.take k))) ∧ Hid (Below w.heap.size w wr) ∧ Hid (w.heap.size ≤ wr.heap.size) ∧ Hid (Grow w1 wr → True))
  case atStart => exact ⟨0, by omega, by omega, rfl, by rw [textOf_nil]; exact HO, HB, HS, fun _ => trivial⟩
  case round =>
    obtain ⟨k, hk, hn, rfl, hO, hB, hS, _⟩ := hrel
    by_cases hlt : k < xs.length
    · have k0 : (0 : Int) ≤ (k : Int) := by omega
      have k1 : (k : Int) < (xs.length : Int) := by omega
      obtain ⟨ad, rfl, hc⟩ := HX.out.at_ k hlt
      have hc' : wr.cell? (ad.add k) = some (.string (xs.getD k ByteArray.empty)) := (hB.out.cell (block_lt_of_cell hc)).trans hc
      have hsz2 : (xs.getD k ByteArray.empty).size ≤ 140737488355328 := by
        have h1 := textOf_take_le name xs (k + 1)
        rw [textOf_snoc name xs k hlt] at h1
        simp only [List.length_append, bl_length] at h1
        have := HL.out
        omega
      generalize hs : xs.getD k ByteArray.empty = s at *
      have HSK := hid hs
      clear hs
      go_wp2_with fail
      refine (number8 s.size (by omega) wr).mono ?_
      rintro e w2 ⟨rfl, hb2⟩
      have HO2 := hid (hO.out.grow hb2)
      have HB2 := hid (below_grow hB.out hS.out hb2)
      have HS2 := hid (Nat.le_trans hS.out hb2.size)
      have hlen8 : (bs (be 8 s.size)).size = 8 := by rw [bs_size, be_length]
      generalize hq : bs (be 8 s.size) = q at *
      have HQ := hid hq
      clear hb2 hq hc'
      go_wp2_with (at_builtin; refine app_str (w0 := w) (B := w.heap.size) (.tmp 34) (.tmp 37) 85 9 5 _ (textOf name (xs.take k)) (q ++ s) rfl rfl Tryz.underlying85 Tryz.underlying9 infoU8 rfl rfl ?h1 ?h2 ?h3 ?h4 ?_)
      case h1 => exact HO2.out
      case h2 => exact HB2.out
      case h3 => exact HS2.out
      case h4 =>
        have h1 := textOf_take_le name xs (k + 1)
        rw [textOf_snoc name xs k hlt, HSK.out] at h1
        simp only [List.length_append, be_length, bl_length] at h1
        have := HL.out
        simp only [ByteArray.size_append]
        omega
      intro v3 w3 hown3 hb3 hs3
      have e3 : textOf name (xs.take k) ++ bl (q ++ s) = textOf name (xs.take (k + 1)) := by
        rw [textOf_snoc name xs k hlt, HSK.out, bl_append, ← HQ.out, bl_bs]
      rw [e3] at hown3
      have HO3 := hid hown3
      have HB3 := hid hb3
      have HS3 := hid hs3
      clear e3 hown3 hb3 hs3
      go_wp2
      go_roundg (xs.length - (k + 1) + 1)
      case rel => exact ⟨k + 1, by omega, rfl, by go_num, HO3, HB3, HS3, fun _ => trivial⟩
      case measure => omega
    · have hcv := buf_str (P := Tryz.prog) 85 5 9 Tryz.underlying85 Tryz.underlying5 Tryz.underlying9 _ _ hO.out
      have HE := hid (textOf_all name xs k (by omega))
      rw [HE.out] at hcv
      go_wp2
      go_ret2
      exact ⟨rfl, hB.out⟩
end Go.Proofs.YtabkaflccaklhaaGreat
end
section
/- Arguments opened: strings, rows of strings. -/
namespace Go.Qk
open Go.RowKit Go.ChangeShapes Go.WideShapes Go.ChangeAt
section
variable {H : Type} {enc : TypeId × Value → H} {P : Program} {w : World} {base : Nat} {spare : Nat → Bool} {held : Bool}
theorem open_strRow {t e : TypeId} {fuel : Nat} {a : Option Addr} {len cap : Nat} {x : DataW H × List MemPlace} (ht : P.underlying t = some (.slice e)) (he : P.underlying e = some .string) (hc : P.cellsOf e = 1)
    (h : DataW.trod enc P w base spare held fuel t (Value.slice a len cap).cells.toList = some x) :
    ∃ xs, StrRow w a xs ∧ xs.length = len ∧ ∀ s ∈ xs, s.size ≤ 9223372036854775807 := by
  rcases open_strings ht he hc h with ⟨hcs, _⟩ | ⟨b, l, c, zs, hcs, _, hl, hm, hz, _, hcell, hwz⟩
  · simp [Value.cells] at hcs
    obtain ⟨rfl, rfl, rfl⟩ := hcs
    exact ⟨[], ⟨by simp, fun h => absurd rfl h⟩, rfl, fun _ h => by cases h⟩
  · simp [Value.cells] at hcs
    obtain ⟨rfl, rfl, rfl⟩ := hcs
    have hzl : len ≤ zs.length := by rw [hz]; split <;> omega
    unfold maxLen at hm
    refine ⟨zs.take len, ⟨by simp; omega, fun _ => ⟨b, rfl, fun i hi => ?_⟩⟩, by simp; omega, fun s hs => by have := hwz s (List.mem_of_mem_take hs); unfold maxLen at this; exact this⟩
    have hi' : i < len := by simp at hi; omega
    rw [hcell i (by omega)]
    simp [List.getD_eq_getElem?_getD, List.getElem?_take, hi']
end
end Go.Qk
end
section
/- Whole arrays and structs: loaded, stored; operations by their run. -/
namespace Go.Qk
open Go.RowKit

section
variable {P : Program}
theorem heap_setRow_same {w : World} {g : Nat} {cur cs : Array Value} {t : TypeId} {fr : Nat × Nat} (hg : w.heap[g]? = some (.cells cur t fr)) : (w.setRow g cs).heap[g]? = some (.cells cs t fr) := by
  simp [World.setRow, Array.getElem?_modify, hg]
theorem heap_setRow_other {w : World} {g k : Nat} {cs : Array Value} (h : k ≠ g) : (w.setRow g cs).heap[k]? = w.heap[k]? := by
  simp [World.setRow, Array.getElem?_modify, Ne.symm h]
theorem size_setRow (w : World) (g : Nat) (cs : Array Value) : (w.setRow g cs).heap.size = w.heap.size := by simp [World.setRow]
theorem below_setRow' {B : Nat} {w0 w : World} {g : Nat} (h : Below B w0 w) (hg : B ≤ g) (cs : Array Value) : Below B w0 (w.setRow g cs) :=
  ⟨h.os, h.tape, h.output, by rw [size_setRow]; exact h.size, fun k hk => by rw [heap_setRow_other (by omega)]; exact h.block k hk⟩
theorem grownBy_setRow (w : World) (g : Nat) (cs : Array Value) : w.grownBy (w.setRow g cs) (some g) :=
  ⟨rfl, rfl, rfl, by rw [size_setRow]; exact Nat.le_refl _, fun k _ hne => heap_setRow_other (fun e => hne (by rw [e]))⟩

theorem grownBy_trans {a b c : World} {row : Option Nat} (h : a.grownBy b row) (k : b.grownBy c row) : a.grownBy c row :=
  ⟨k.os.trans h.os, k.tape.trans h.tape, k.output.trans h.output, Nat.le_trans h.size k.size, fun i hi hne => (k.block i (Nat.lt_of_lt_of_le hi h.size) hne).trans (h.block i hi hne)⟩
theorem grownBy_grow {a b : World} (h : Grow a b) (row : Option Nat) : a.grownBy b row := ⟨h.os, h.tape, h.output, h.size, fun i hi _ => h.block i hi⟩
theorem grownBy_setCell (w : World) (g j : Nat) (v : Value) : w.grownBy (w.setCell ⟨g, j, none⟩ v) (some g) :=
  ⟨rfl, rfl, rfl, by simp, fun k _ hne => heap_setCell_other w _ k v (fun e => hne (by rw [e]))⟩
theorem cell_head {w w' : World} {g : Nat} {cs tl : List Value} {t : TypeId} {fr : Nat × Nat} (hg : w.heap[g]? = some (.cells (cs ++ tl).toArray t fr)) (hw : Grow w w') (j : Nat) (v : Value) (h : cs[j]? = some v) : w'.cell? ⟨g, j, none⟩ = some v := by
  rw [cell_of_row _ _ _ _ _ _ (grow_block hg hw)]
  have hl := (List.getElem?_eq_some_iff.1 h).1
  simpa [List.getElem?_append_left hl] using h
theorem run_loadVar_agg (w : World) (ad : Addr) (ty : TypeId) (cs : List Value) (d : TypeDesc) (hc : ∀ j v, cs[j]? = some v → w.cell? (ad.add j) = some v)
    (hu : P.underlying ty = some d) (hd : (match d with | .struct _ | .array _ _ => true | _ => false) = true) (hi : (P.info? ty).map (·.size) = some cs.length) :
    (loadVar ty ad).run P w = .ok (.agg cs.toArray) w := by
  have hl := run_loadCells_list (P := P) w ad cs hc
  cases hq : P.info? ty with
  | none => simp [hq] at hi
  | some i =>
    have hs : i.size = cs.length := by simpa [hq] using hi
    have hagg : (isAgg ty).run P w = .ok true w := by
      unfold isAgg
      rw [Sem.run_bind, run_underlying hu w]
      cases d <;> simp_all
    simp [loadVar, Sem.run_bind, hagg, sizeOf, typeInfo, hq, hs, hl]
theorem run_loadAt_agg (w : World) (ad : Addr) (ty : TypeId) (cs : List Value) (d : TypeDesc) (hc : ∀ j v, cs[j]? = some v → w.cell? (ad.add j) = some v)
    (hu : P.underlying ty = some d) (hd : (match d with | .struct _ | .array _ _ => true | _ => false) = true) (hi : (P.info? ty).map (·.size) = some cs.length) :
    (Instr.loadAt ty (.pointer (some ad))).run P w = .ok (.agg cs.toArray) w := by
  simp only [Instr.loadAt, Instr.sureAddr, Sem.run_bind, Sem.run_pure, Result.andThen_ok, run_loadVar_agg w ad ty cs d hc hu hd hi]
/-- A whole block, or its beginning. -/
theorem cells_block {w : World} {g : Nat} {cs tl : List Value} {t : TypeId} {fr : Nat × Nat} (hg : w.heap[g]? = some (.cells (cs ++ tl).toArray t fr)) (j : Nat) (v : Value) (h : cs[j]? = some v) : w.cell? ((⟨g, 0, none⟩ : Addr).add j) = some v := by
  rw [addr_add, cell_of_row _ _ _ _ _ _ hg]
  have hl := (List.getElem?_eq_some_iff.1 h).1
  simpa [List.getElem?_append_left hl] using h
/-- An element of an array value. -/
theorem run_index_arr (ty e : TypeId) (n : Nat) (cs : List Value) (k : Nat) (v : Value) (i : Int) (hi : i = k) (hk : k < n) (hv : cs[k]? = some v) (w : World) (hu : P.underlying ty = some (.array n e)) {d : TypeDesc} (he : P.underlying e = some d) (hd : (match d with | .struct _ | .array _ _ => true | _ => false) = false) (hs : (P.info? e).map (·.size) = some 1) :
    (Instr.index ty (.agg cs.toArray) (.int .i64 i)).run P w = .ok v w := by
  subst hi
  cases hq : P.info? e with
  | none => simp [hq] at hs
  | some ei =>
    have h1 : ei.size = 1 := by simpa [hq] using hs
    have hagg : (isAgg e).run P w = .ok false w := by
      unfold isAgg
      rw [Sem.run_bind, run_underlying he w]
      cases d <;> simp_all
    have hb : (0 : Int) ≤ (k : Int) ∧ (k : Int) < (n : Int) := ⟨by omega, by omega⟩
    simp [Instr.index, asIntOf, Sem.run_bind, run_underlying hu w, hb, sizeOf, typeInfo, hq, h1, part, hagg, hv, hk]
theorem run_storeAt_agg (w : World) (g off : Nat) (ty t : TypeId) (cs : List Value) (cur : Array Value) (hg : w.heap[g]? = some (.cells cur t (0, 0))) (hi : (P.info? ty).map (·.size) = some cs.length) (hfit : off + cs.length ≤ cur.size)
    (h1 : ∀ v ∈ cs, v.oneCell' = true) : (Instr.storeAt ty (.pointer (some ⟨g, off, none⟩)) (.agg cs.toArray)).run P w = .ok () (w.setRow g (cur.toList.take off ++ cs ++ cur.toList.drop (off + cs.length)).toArray) := by
  have h := run_storeCells_at (P := P) g off t cs 0 cur w hg (by simpa using hfit) h1
  cases hq : P.info? ty with
  | none => simp [hq] at hi
  | some i =>
    have hs : i.size = cs.length := by simpa [hq] using hi
    simp only [Nat.add_zero] at h
    simp [Instr.storeAt, Instr.sureAddr, storeVar, Sem.run_bind, sizeOf, typeInfo, hq, hs, Value.cells, h]

variable {w : World} {ops : Array Oper} {rest : List Oper} {o : Oper} {a : Act} {Q : Exit → Act → World → Prop}
theorem wpList_val {v : Value} {w' : World} (hgd : o.guard = none) (hrun : (execOp a.eval o).run P w = .ok (.value v) w') (h : wpList P ops Q rest (a.put o.dst v) w') : wpList P ops Q (o :: rest) a w :=
  wpList_plain hgd fun K hK => by
    unfold Oper.wp
    rw [hrun]
    exact hK _ _ h
theorem wpList_valop (X : Op) (ho : o.op = X) {v : Value} {w' : World} (hgd : o.guard = none) (hrun : (execOp a.eval o).run P w = .ok (.value v) w') (h : wpList P ops Q rest (a.put o.dst v) w') : wpList P ops Q (o :: rest) a w := wpList_val hgd hrun h
theorem wpList_load_agg (hgd : o.guard = none) (ty : TypeId) (x : Operand) (ho : o.op = .load ty x) (ad : Addr) (hx : a.eval x = .pointer (some ad)) (cs : List Value) (d : TypeDesc) (hc : ∀ j v, cs[j]? = some v → w.cell? (ad.add j) = some v)
    (hu : P.underlying ty = some d) (hd : (match d with | .struct _ | .array _ _ => true | _ => false) = true) (hi : (P.info? ty).map (·.size) = some cs.length) (h : wpList P ops Q rest (a.put o.dst (.agg cs.toArray)) w) : wpList P ops Q (o :: rest) a w :=
  wpList_val hgd (by
    unfold execOp
    simp only [ho, hx, Sem.run_bind, Sem.run_pure, Result.andThen_ok, run_loadAt_agg w ad ty cs d hc hu hd hi]) h
theorem wpList_store_agg (hgd : o.guard = none) (hdst : o.dst = none) (ty : TypeId) (x y : Operand) (ho : o.op = .store ty x y) (g off : Nat) (hx : a.eval x = .pointer (some ⟨g, off, none⟩)) (cs : List Value) (hy : a.eval y = .agg cs.toArray) (cur : Array Value) (t : TypeId)
    (hg : w.heap[g]? = some (.cells cur t (0, 0))) (hi : (P.info? ty).map (·.size) = some cs.length) (hfit : off + cs.length ≤ cur.size) (h1 : ∀ v ∈ cs, v.oneCell' = true)
    (h : wpList P ops Q rest a (w.setRow g (cur.toList.take off ++ cs ++ cur.toList.drop (off + cs.length)).toArray)) : wpList P ops Q (o :: rest) a w :=
  wpList_plain hgd fun K hK => by
    have hrun : (execOp a.eval o).run P w = .ok .skip (w.setRow g (cur.toList.take off ++ cs ++ cur.toList.drop (off + cs.length)).toArray) := by
      unfold execOp
      simp only [ho, hx, hy, Sem.run_bind, Sem.run_pure, Result.andThen_ok, run_storeAt_agg w g off ty t cs cur hg hi hfit h1]
    unfold Oper.wp
    rw [hrun]
    have e : a.put o.dst undef = a := by rw [hdst]; rfl
    simp only [Oper.upon, e]
    exact hK _ _ h
theorem bytesWorld_grow (w : World) (e : TypeId) (s : ByteArray) : Grow w (Lib.bytesWorld w e s) :=
  ⟨by simp [Lib.bytesWorld, World.freeze, World.alloc, World.drew, -World.alloc_eq, -World.drew_eq], by simp [Lib.bytesWorld, World.freeze, World.alloc, World.drew, -World.alloc_eq, -World.drew_eq],
    by simp [Lib.bytesWorld, World.freeze, World.alloc, World.drew, -World.alloc_eq, -World.drew_eq], by rw [Lib.bytesWorld_size]; omega, fun k hk => Lib.bytesWorld_at_old w e s k hk⟩
/-- []byte(s). -/
theorem conv_bytes (src dst e : TypeId) (x : Operand) (l : List UInt8) (hgd : o.guard = none) (ho : o.op = .convert src dst x) (hx : a.eval x = .string (bs l)) {u : TypeDesc} (hs : P.underlying src = some u) (hd : P.underlying dst = some (.slice e)) (he : P.underlying e = some (.int .u8))
    (h : ∀ W cap, Grow w W → l.length ≤ cap → w.heap.size < W.heap.size → (∀ j v, (u8s l)[j]? = some v → W.cell? ((⟨w.heap.size, 0, none⟩ : Addr).add j) = some v) → wpList P ops Q rest (a.put o.dst (.slice (some ⟨w.heap.size, 0, none⟩) l.length cap)) W) : wpList P ops Q (o :: rest) a w := by
  have hr := Lib.run_convert_string_bytes (P := P) w src dst e (bs l) hs hd he
  rw [bs_size] at hr
  refine wpList_val (v := .slice (some ⟨w.heap.size, 0, none⟩) l.length (grownCap w l.length 0 e)) (w' := Lib.bytesWorld w e (bs l)) hgd ?_ (h _ _ (bytesWorld_grow w e (bs l)) (grownCap_ge w _ 0 e) (by rw [Lib.bytesWorld_size]; omega) ?_)
  · unfold execOp
    simp only [ho, hx, Sem.run_bind, Sem.run_pure, Result.andThen_ok, hr]
  · intro j v hj
    have hlt : j < l.length := by have := (List.getElem?_eq_some_iff.1 hj).1; rwa [u8s_length] at this
    rw [addr_add, Lib.bytesWorld_cell w e (bs l) j (by rw [bs_size]; exact hlt)]
    rw [u8s_get l j hlt] at hj
    rw [← hj]
    rfl
/-- copy into a block that is known whole. -/
theorem copy_block (d s : Operand) (dT sT elem : TypeId) (g off dLen dCap : Nat) (ad : Addr) (sLen sCap : Nat) (cs cur : List Value) (t : TypeId) (news : List Value) (hgd : o.guard = none)
    (ho : o.op = .call { callee := .builtin .copy, args := #[d, s], argTypes := #[dT, sT] }) (hu : P.underlying dT = some (.slice elem)) (hsz : (P.info? elem).map (·.size) = some 1)
    (hd : a.eval d = .slice (some ⟨g, off, none⟩) dLen dCap) (hs : a.eval s = .slice (some ad) sLen sCap) (hg : w.heap[g]? = some (.cells cur.toArray t (0, 0))) (hn : cs.length = Nat.min sLen dLen)
    (hsrc : ∀ j v, cs[j]? = some v → w.cell? (ad.add j) = some v) (hfit : off + cs.length ≤ cur.length) (h1 : ∀ v ∈ cs, v.oneCell' = true) (hnew : cur.take off ++ (cs ++ cur.drop (off + cs.length)) = news)
    (h : ∀ W, W.heap[g]? = some (.cells news.toArray t (0, 0)) → w.grownBy W (some g) → (∀ B w0, Below B w0 w → B ≤ g → Below B w0 W) → wpList P ops Q rest (a.put o.dst (goInt cs.length)) W) : wpList P ops Q (o :: rest) a w := by
  refine wpList_copy_own hgd d s dT sT ho elem hu hsz g off dLen dCap ad sLen sCap hd hs cur.toArray t hg cs hn hsrc (by simpa using hfit) h1 ?_
  have e : (cur.toArray.toList.take off ++ (cs ++ cur.toArray.toList.drop (off + cs.length))) = news := by simpa using hnew
  rw [e]
  exact h _ (heap_setRow_same hg) (grownBy_setRow _ _ _) (fun B w0 hb hB => below_setRow' hb hB _)
/-- A whole array, or struct, stored into a block that is known whole. -/
theorem store_block (ty : TypeId) (x y : Operand) (g off : Nat) (cs cur news : List Value) (t : TypeId) (hgd : o.guard = none) (hdst : o.dst = none) (ho : o.op = .store ty x y) (hx : a.eval x = .pointer (some ⟨g, off, none⟩)) (hy : a.eval y = .agg cs.toArray)
    (hg : w.heap[g]? = some (.cells cur.toArray t (0, 0))) (hi : (P.info? ty).map (·.size) = some cs.length) (hfit : off + cs.length ≤ cur.length) (h1 : ∀ v ∈ cs, v.oneCell' = true) (hnew : cur.take off ++ cs ++ cur.drop (off + cs.length) = news)
    (h : ∀ W, W.heap[g]? = some (.cells news.toArray t (0, 0)) → w.grownBy W (some g) → (∀ B w0, Below B w0 w → B ≤ g → Below B w0 W) → wpList P ops Q rest a W) : wpList P ops Q (o :: rest) a w := by
  refine wpList_store_agg hgd hdst ty x y ho g off hx cs hy cur.toArray t hg hi (by simpa using hfit) h1 ?_
  have e : (cur.toArray.toList.take off ++ cs ++ cur.toArray.toList.drop (off + cs.length)) = news := by simpa using hnew
  rw [e]
  exact h _ (heap_setRow_same hg) (grownBy_setRow _ _ _) (fun B w0 hb hB => below_setRow' hb hB _)
end
end Go.Qk
end
