set_option linter.unusedSimpArgs false
set_option linter.unusedVariables false
/- Plain: the longest common row (lcs), the walk over two rows of lines that makes hunks (stD), what the hunks do; no smaller ones. -/
namespace Go.Proofs.Ytkbapegohodcgaa.Dif
set_option linter.unusedSectionVars false
set_option linter.unusedVariables false
variable {α : Type} [DecidableEq α]

def lcs : List α → List α → Nat
  | [], _ => 0
  | _ :: _, [] => 0
  | a :: as, b :: bs => max (max (lcs as (b :: bs)) (lcs (a :: as) bs)) (if a = b then lcs as bs + 1 else 0)
termination_by x y => x.length + y.length

theorem lcs_nil_l (y : List α) : lcs [] y = 0 := by unfold lcs; rfl
theorem lcs_nil_r (x : List α) : lcs x [] = 0 := by cases x <;> (unfold lcs; rfl)
theorem lcs_cons (a b : α) (as bs : List α) : lcs (a :: as) (b :: bs) = max (max (lcs as (b :: bs)) (lcs (a :: as) bs)) (if a = b then lcs as bs + 1 else 0) := by
  rw [lcs]

theorem lcs_ex (n : Nat) : ∀ (x y : List α), x.length + y.length ≤ n → ∃ l : List α, l.Sublist x ∧ l.Sublist y ∧ l.length = lcs x y := by
  induction n with
  | zero =>
    intro x y h
    obtain rfl : x = [] := List.eq_nil_of_length_eq_zero (by omega)
    exact ⟨[], List.nil_sublist _, List.nil_sublist _, by rw [lcs_nil_l]; rfl⟩
  | succ n ih =>
    intro x y h
    match x, y with
    | [], y => exact ⟨[], List.nil_sublist _, List.nil_sublist _, by rw [lcs_nil_l]; rfl⟩
    | a :: as, [] => exact ⟨[], List.nil_sublist _, List.nil_sublist _, by rw [lcs_nil_r]; rfl⟩
    | a :: as, b :: bs =>
      simp only [List.length_cons] at h
      rw [lcs_cons]
      obtain ⟨l1, h1, h2, h3⟩ := ih as (b :: bs) (by simp; omega)
      obtain ⟨l2, k1, k2, k3⟩ := ih (a :: as) bs (by simp; omega)
      obtain ⟨l4, m1, m2, m3⟩ := ih as bs (by omega)
      have c1 : (∃ l : List α, l.Sublist (a :: as) ∧ l.Sublist (b :: bs) ∧ l.length = lcs as (b :: bs)) := ⟨l1, h1.cons _, h2, h3⟩
      have c2 : (∃ l : List α, l.Sublist (a :: as) ∧ l.Sublist (b :: bs) ∧ l.length = lcs (a :: as) bs) := ⟨l2, k1, k2.cons _, k3⟩
      have c3 : (∃ l : List α, l.Sublist (a :: as) ∧ l.Sublist (b :: bs) ∧ l.length = (if a = b then lcs as bs + 1 else 0)) := by
        by_cases e : a = b
        · subst e
          exact ⟨a :: l4, m1.cons_cons _, m2.cons_cons _, by rw [if_pos rfl, List.length_cons, m3]⟩
        · exact ⟨[], List.nil_sublist _, List.nil_sublist _, by rw [if_neg e]; rfl⟩
      rcases Nat.le_total (lcs as (b :: bs)) (lcs (a :: as) bs) with g | g <;>
      rcases Nat.le_total (max (lcs as (b :: bs)) (lcs (a :: as) bs)) (if a = b then lcs as bs + 1 else 0) with g2 | g2
      · rw [Nat.max_eq_right g2]; exact c3
      · rw [Nat.max_eq_left g2, Nat.max_eq_right g]; exact c2
      · rw [Nat.max_eq_right g2]; exact c3
      · rw [Nat.max_eq_left g2, Nat.max_eq_left g]; exact c1

theorem lcs_ub (n : Nat) : ∀ (x y l : List α), x.length + y.length ≤ n → l.Sublist x → l.Sublist y → l.length ≤ lcs x y := by
  induction n with
  | zero =>
    intro x y l h h1 h2
    obtain rfl : x = [] := List.eq_nil_of_length_eq_zero (by omega)
    have := h1.length_le; simp at this; subst this; simp
  | succ n ih =>
    intro x y l h h1 h2
    match x, y with
    | [], y => have := h1.length_le; simp at this; subst this; simp
    | a :: as, [] => have := h2.length_le; simp at this; subst this; simp
    | a :: as, b :: bs =>
      simp only [List.length_cons] at h
      rw [lcs_cons]
      cases h1 with
      | cons _ h1 => have := ih as (b :: bs) l (by simp; omega) h1 h2; omega
      | cons_cons _ h1 =>
        rename_i l'
        cases h2 with
        | cons _ h2 => have := ih (a :: as) bs (a :: l') (by simp; omega) (h1.cons_cons _) h2; omega
        | cons_cons _ h2 => have := ih as bs l' (by omega) h1 h2; simp; omega

theorem lcs_le {x y l : List α} (h1 : l.Sublist x) (h2 : l.Sublist y) : l.length ≤ lcs x y := lcs_ub _ x y l (Nat.le_refl _) h1 h2
theorem lcs_sub (x y : List α) : ∃ l : List α, l.Sublist x ∧ l.Sublist y ∧ l.length = lcs x y := lcs_ex _ x y (Nat.le_refl _)
theorem lcs_symm (x y : List α) : lcs x y = lcs y x := by
  obtain ⟨l, a, b, c⟩ := lcs_sub x y
  obtain ⟨l', a', b', c'⟩ := lcs_sub y x
  have := lcs_le b a; have := lcs_le b' a'; omega
theorem lcs_self (x : List α) : lcs x x = x.length := by
  obtain ⟨l, a, b, c⟩ := lcs_sub x x
  have := lcs_le (List.Sublist.refl x) (List.Sublist.refl x)
  have := a.length_le
  omega
theorem lcs_le_l (x y : List α) : lcs x y ≤ x.length := by
  obtain ⟨l, a, b, c⟩ := lcs_sub x y
  have := a.length_le; omega
theorem lcs_le_r (x y : List α) : lcs x y ≤ y.length := by
  obtain ⟨l, a, b, c⟩ := lcs_sub x y
  have := b.length_le; omega
/-- Replacing O by N in the middle: at most O's lines are lost. -/
theorem lcs_mid (x p o n q : List α) : lcs x (p ++ o ++ q) ≤ lcs x (p ++ n ++ q) + o.length := by
  obtain ⟨l, a, b, c⟩ := lcs_sub x (p ++ o ++ q)
  obtain ⟨l12, l3, rfl, b12, b3⟩ := List.sublist_append_iff.1 b
  obtain ⟨l1, l2, rfl, b1, b2⟩ := List.sublist_append_iff.1 b12
  have h : (l1 ++ l3).Sublist (p ++ n ++ q) := by
    rw [List.append_assoc]
    exact b1.append (b3.trans (List.sublist_append_right _ _))
  have h' : (l1 ++ l3).Sublist x := by
    refine List.Sublist.trans ?_ a
    rw [List.append_assoc]
    exact (List.Sublist.refl l1).append (List.sublist_append_right _ _)
  have := lcs_le h' h
  have := b2.length_le
  simp at *; omega

structure Hk (α : Type) where
  pos : Nat
  old : List α
  new : List α
deriving DecidableEq
structure DSt (α : Type) where
  i : Nat
  j : Nat
  fin : List (Hk α)
  now : Option (Hk α)
def hkSize (h : Hk α) : Nat := h.old.length + h.new.length
def hksSize (l : List (Hk α)) : Nat := (l.map hkSize).sum
def DSt.out (s : DSt α) : List (Hk α) := s.fin ++ s.now.toList
def kAt (xs ys : List α) (i j : Nat) : Nat := lcs (xs.drop i) (ys.drop j)
def DSt.hk (s : DSt α) : Hk α := s.now.getD ⟨s.j, [], []⟩
def keepD (d : α) (xs ys : List α) (i j : Nat) : Bool := decide (i < xs.length ∧ j < ys.length ∧ xs.getD i d = ys.getD j d ∧ kAt xs ys i j = kAt xs ys (i + 1) (j + 1) + 1)
def delD (xs ys : List α) (i j : Nat) : Bool := decide (i < xs.length ∧ (j = ys.length ∨ kAt xs ys i (j + 1) ≤ kAt xs ys (i + 1) j))
def keepSt (s : DSt α) : DSt α := ⟨s.i + 1, s.j + 1, s.out, none⟩
def delSt (d : α) (xs : List α) (s : DSt α) : DSt α := ⟨s.i + 1, s.j, s.fin, some ⟨s.hk.pos, s.hk.old ++ [xs.getD s.i d], s.hk.new⟩⟩
def insSt (d : α) (ys : List α) (s : DSt α) : DSt α := ⟨s.i, s.j + 1, s.fin, some ⟨s.hk.pos, s.hk.old, s.hk.new ++ [ys.getD s.j d]⟩⟩
def doneD (xs ys : List α) (s : DSt α) : Bool := decide (xs.length ≤ s.i ∧ ys.length ≤ s.j)
def stepD (d : α) (xs ys : List α) (s : DSt α) : DSt α :=
  if doneD xs ys s = true then s else if keepD d xs ys s.i s.j = true then keepSt s else if delD xs ys s.i s.j = true then delSt d xs s else insSt d ys s
def stD (d : α) (xs ys : List α) : Nat → DSt α
  | 0 => ⟨0, 0, [], none⟩
  | k + 1 => stepD d xs ys (stD d xs ys k)
def diffL (d : α) (xs ys : List α) : List (Hk α) := (stD d xs ys (xs.length + ys.length)).out
theorem kAt_zero (xs ys : List α) : kAt xs ys 0 0 = lcs xs ys := rfl
theorem kAt_end_l (xs ys : List α) (i j : Nat) (h : xs.length ≤ i) : kAt xs ys i j = 0 := by unfold kAt; rw [List.drop_of_length_le h, lcs_nil_l]
theorem kAt_end_r (xs ys : List α) (i j : Nat) (h : ys.length ≤ j) : kAt xs ys i j = 0 := by unfold kAt; rw [List.drop_of_length_le h, lcs_nil_r]
theorem drop_cons (d : α) (xs : List α) (i : Nat) (h : i < xs.length) : xs.drop i = xs.getD i d :: xs.drop (i + 1) := by
  rw [List.drop_eq_getElem_cons h]; simp [h]
theorem kAt_step (d : α) (xs ys : List α) (i j : Nat) (hi : i < xs.length) (hj : j < ys.length) :
    kAt xs ys i j = max (max (kAt xs ys (i + 1) j) (kAt xs ys i (j + 1))) (if xs.getD i d = ys.getD j d then kAt xs ys (i + 1) (j + 1) + 1 else 0) := by
  unfold kAt
  rw [drop_cons d xs i hi, drop_cons d ys j hj, lcs_cons]

def hkApply (l : List α) (h : Hk α) : List α := l.take h.pos ++ h.new ++ l.drop (h.pos + h.old.length)
def hkFits (l : List α) (h : Hk α) : Prop := h.pos ≤ l.length ∧ (l.drop h.pos).take h.old.length = h.old
def hkAll : List α → List (Hk α) → List α
  | l, [] => l
  | l, h :: hs => hkAll (hkApply l h) hs
def hkFit : List α → List (Hk α) → Prop
  | _, [] => True
  | l, h :: hs => hkFits l h ∧ hkFit (hkApply l h) hs
theorem hkAll_snoc : ∀ (hs : List (Hk α)) (l : List α) (h : Hk α), hkAll l (hs ++ [h]) = hkApply (hkAll l hs) h
  | [], _, _ => rfl
  | _ :: hs, l, h => hkAll_snoc hs _ h
theorem hkFit_snoc : ∀ (hs : List (Hk α)) (l : List α) (h : Hk α), hkFit l (hs ++ [h]) ↔ hkFit l hs ∧ hkFits (hkAll l hs) h
  | [], _, _ => by simp [hkFit, hkAll]
  | _ :: hs, l, h => by simp [hkFit, hkAll, hkFit_snoc hs, and_assoc]
/-- The end of the last hunk, in the new lines; -1 less where there is none. -/
def hkEnds (hs : List (Hk α)) (j : Nat) : Prop := ∀ h ∈ hs, h.pos + h.new.length < j
structure InvD (d : α) (xs ys : List α) (s : DSt α) (p q : Nat) : Prop where
  hi : s.i ≤ xs.length
  hj : s.j ≤ ys.length
  hp : p ≤ s.i
  hq : q ≤ s.j
  fit : hkFit xs s.fin
  all : hkAll xs s.fin = ys.take q ++ xs.drop p
  pos : s.now = none → p = s.i ∧ q = s.j
  now : ∀ h, s.now = some h → h.pos = q ∧ h.old = (xs.drop p).take (s.i - p) ∧ h.new = (ys.drop q).take (s.j - q) ∧ 0 < h.old.length + h.new.length
  ends : hkEnds s.fin q
  cost : hksSize s.out + 2 * (lcs xs ys - kAt xs ys s.i s.j) = s.i + s.j
  less : kAt xs ys s.i s.j ≤ lcs xs ys
  pw : s.fin.Pairwise (fun a b => a.pos + a.new.length < b.pos)
  full : ∀ h ∈ s.fin, 0 < h.old.length + h.new.length
  sub : ∀ h ∈ s.fin, (∀ x ∈ h.old, x ∈ xs) ∧ (∀ x ∈ h.new, x ∈ ys)
theorem hksSize_append (a b : List (Hk α)) : hksSize (a ++ b) = hksSize a + hksSize b := by simp [hksSize]
theorem inv_start (d : α) (xs ys : List α) : InvD d xs ys (stD d xs ys 0) 0 0 := by
  refine ⟨Nat.zero_le _, Nat.zero_le _, Nat.le_refl _, Nat.le_refl _, trivial, ?_, fun _ => ⟨rfl, rfl⟩, fun h e => (by cases e), fun h e => (by cases e), ?_, ?_, List.Pairwise.nil, fun h e => (by cases e), fun h e => (by cases e)⟩
  · simp [stD, hkAll]
  · simp [stD, DSt.out, hksSize, kAt_zero]
  · simp [stD, kAt_zero]
theorem take_ext (d : α) (l : List α) (p i : Nat) (hp : p ≤ i) (hi : i < l.length) : (l.drop p).take (i + 1 - p) = (l.drop p).take (i - p) ++ [l.getD i d] := by
  rw [show i + 1 - p = (i - p) + 1 by omega, List.take_succ_eq_append_getElem (by simp; omega)]
  simp [show p + (i - p) = i by omega, hi]
theorem kAt_le (xs ys : List α) (i j : Nat) : kAt xs ys (i + 1) j ≤ kAt xs ys i j ∧ kAt xs ys i (j + 1) ≤ kAt xs ys i j := by
  constructor
  · unfold kAt
    obtain ⟨l, a, b, c⟩ := lcs_sub (xs.drop (i + 1)) (ys.drop j)
    rw [← c]
    refine lcs_le (a.trans ?_) b
    rw [← List.drop_drop]; exact List.drop_sublist _ _
  · unfold kAt
    obtain ⟨l, a, b, c⟩ := lcs_sub (xs.drop i) (ys.drop (j + 1))
    rw [← c]
    refine lcs_le a (b.trans ?_)
    rw [← List.drop_drop]; exact List.drop_sublist _ _
theorem mem_drop_take {l : List α} {p n : Nat} {x : α} (h : x ∈ (l.drop p).take n) : x ∈ l := List.mem_of_mem_drop (List.mem_of_mem_take h)
/-- Closing the hunk that stands open. -/
theorem close_inv {d : α} {xs ys : List α} {s : DSt α} {p q : Nat} (I : InvD d xs ys s p q) :
    hkFit xs s.out ∧ hkAll xs s.out = ys.take s.j ++ xs.drop s.i ∧ (∀ h ∈ s.out, h.pos + h.new.length ≤ s.j) ∧ s.out.Pairwise (fun a b => a.pos + a.new.length < b.pos) ∧ (∀ h ∈ s.out, 0 < h.old.length + h.new.length) ∧ (∀ h ∈ s.out, (∀ x ∈ h.old, x ∈ xs) ∧ (∀ x ∈ h.new, x ∈ ys)) := by
  cases e : s.now with
  | none =>
    obtain ⟨h1, h2⟩ := I.pos e
    have ho : s.out = s.fin := by simp [DSt.out, e]
    rw [ho]
    exact ⟨I.fit, by rw [I.all, h1, h2], fun h hh => by have := I.ends h hh; omega, I.pw, I.full, I.sub⟩
  | some h =>
    obtain ⟨h1, h2, h3, h4⟩ := I.now h e
    have ho : s.out = s.fin ++ [h] := by simp [DSt.out, e]
    have hi := I.hi; have hj := I.hj; have hp := I.hp; have hq := I.hq
    have lo : h.old.length = s.i - p := by rw [h2]; simp; omega
    have ln : h.new.length = s.j - q := by rw [h3]; simp; omega
    rw [ho]
    refine ⟨?_, ?_, ?_, ?_, ?_, ?_⟩
    · rw [hkFit_snoc]
      refine ⟨I.fit, ?_, ?_⟩
      · rw [I.all, h1]; simp; omega
      · rw [I.all, h1, lo, h2]
        rw [List.drop_append_of_le_length (by simp; omega)]
        have : (List.take q ys).drop q = [] := List.drop_of_length_le (by simp; omega)
        rw [this, List.nil_append]
    · rw [hkAll_snoc, I.all]
      unfold hkApply
      have e1 : (ys.take q).length = q := by simp; omega
      rw [h1, lo, List.take_append_of_le_length (by omega), List.take_of_length_le (l := ys.take q) (by omega)]
      rw [List.drop_append, e1, List.drop_of_length_le (l := ys.take q) (by omega), List.nil_append, List.drop_drop]
      rw [show p + (q + (s.i - p) - q) = s.i by omega, h3]
      congr 1
      have : ys.take s.j = ys.take (q + (s.j - q)) := by rw [show q + (s.j - q) = s.j by omega]
      rw [this, List.take_add]
    · intro g hg
      rcases List.mem_append.1 hg with h' | h'
      · have := I.ends g h'; omega
      · obtain rfl := List.mem_singleton.1 h'; omega
    · rw [List.pairwise_append]
      refine ⟨I.pw, List.pairwise_singleton _ _, fun a ha b hb => ?_⟩
      obtain rfl := List.mem_singleton.1 hb
      have := I.ends a ha; omega
    · intro g hg
      rcases List.mem_append.1 hg with h' | h'
      · exact I.full g h'
      · obtain rfl := List.mem_singleton.1 h'; exact h4
    · intro g hg
      rcases List.mem_append.1 hg with h' | h'
      · exact I.sub g h'
      · obtain rfl := List.mem_singleton.1 h'
        exact ⟨fun x hx => mem_drop_take (h2 ▸ hx), fun x hx => mem_drop_take (h3 ▸ hx)⟩
theorem hk_of {d : α} {xs ys : List α} {s : DSt α} {p q : Nat} (I : InvD d xs ys s p q) : s.hk.pos = q ∧ s.hk.old = (xs.drop p).take (s.i - p) ∧ s.hk.new = (ys.drop q).take (s.j - q) := by
  unfold DSt.hk
  cases e : s.now with
  | none => obtain ⟨h1, h2⟩ := I.pos e; subst h1; subst h2; simp
  | some h => obtain ⟨h1, h2, h3, _⟩ := I.now h e; exact ⟨h1, h2, h3⟩
theorem out_size (s : DSt α) : hksSize s.out = hksSize s.fin + hkSize s.hk := by
  unfold DSt.out DSt.hk
  rw [hksSize_append]
  cases s.now <;> simp [hksSize, hkSize]
theorem inv_step (d : α) (xs ys : List α) (s : DSt α) (p q : Nat) (I : InvD d xs ys s p q) : ∃ p q, InvD d xs ys (stepD d xs ys s) p q := by
  unfold stepD
  by_cases hd : doneD xs ys s = true
  · rw [if_pos hd]; exact ⟨p, q, I⟩
  rw [if_neg hd]
  have hi := I.hi; have hj := I.hj; have hp := I.hp; have hq := I.hq
  have hc := I.cost; have hl := I.less
  simp only [doneD, decide_eq_true_eq] at hd
  obtain ⟨k1, k2, k3⟩ := hk_of I
  by_cases hk : keepD d xs ys s.i s.j = true
  · rw [if_pos hk]
    simp only [keepD, decide_eq_true_eq] at hk
    obtain ⟨a1, a2, a3, a4⟩ := hk
    obtain ⟨c1, c2, c3, c4, c5, c6⟩ := close_inv I
    have hadv : ys.take (s.j + 1) ++ xs.drop (s.i + 1) = ys.take s.j ++ xs.drop s.i := by
      rw [drop_cons d xs s.i a1, a3]
      rw [List.take_succ_eq_append_getElem a2, List.append_assoc]
      simp [a2]
    refine ⟨s.i + 1, s.j + 1, ⟨a1, a2, Nat.le_refl _, Nat.le_refl _, c1, ?_, fun _ => ⟨rfl, rfl⟩, fun h e => (by cases e), ?_, ?_, ?_, c4, c5, c6⟩⟩
    · show hkAll xs s.out = _
      rw [c2]; exact hadv.symm
    · intro h hh
      have := c3 h hh
      show _ < s.j + 1
      omega
    · show hksSize (s.out ++ []) + 2 * (lcs xs ys - kAt xs ys (s.i + 1) (s.j + 1)) = s.i + 1 + (s.j + 1)
      rw [List.append_nil]; omega
    · show kAt xs ys (s.i + 1) (s.j + 1) ≤ _
      omega
  · rw [if_neg hk]
    simp only [keepD, decide_eq_true_eq] at hk
    rw [out_size] at hc
    unfold hkSize at hc
    by_cases hx : delD xs ys s.i s.j = true
    · rw [if_pos hx]
      simp only [delD, decide_eq_true_eq] at hx
      obtain ⟨a1, a2⟩ := hx
      have hK : kAt xs ys (s.i + 1) s.j = kAt xs ys s.i s.j := by
        rcases Nat.lt_or_ge s.j ys.length with h | h
        · have := kAt_step d xs ys s.i s.j a1 h
          have a2' := a2.resolve_left (by omega)
          split at this
          · rename_i e
            have : ¬ kAt xs ys s.i s.j = kAt xs ys (s.i + 1) (s.j + 1) + 1 := fun e' => hk ⟨a1, h, e, e'⟩
            have := kAt_le xs ys s.i s.j
            omega
          · omega
        · rw [kAt_end_r _ _ _ _ h, kAt_end_r _ _ _ _ h]
      refine ⟨p, q, ⟨a1, hj, by show p ≤ s.i + 1; omega, hq, I.fit, I.all, fun e => (by cases e), ?_, I.ends, ?_, ?_, I.pw, I.full, I.sub⟩⟩
      · rintro h ⟨⟩
        refine ⟨k1, ?_, k3, by simp; omega⟩
        show s.hk.old ++ [xs.getD s.i d] = _
        rw [k2]; exact (take_ext d xs p s.i hp a1).symm
      · rw [out_size]
        show hksSize s.fin + ((s.hk.old ++ [xs.getD s.i d]).length + s.hk.new.length) + 2 * (lcs xs ys - kAt xs ys (s.i + 1) s.j) = s.i + 1 + s.j
        rw [hK, List.length_append, List.length_singleton]; omega
      · show kAt xs ys (s.i + 1) s.j ≤ _
        omega
    · rw [if_neg hx]
      simp only [delD, decide_eq_true_eq] at hx
      have a1 : s.j < ys.length := by
        rcases Nat.lt_or_ge s.j ys.length with h | h
        · exact h
        · exact absurd ⟨by omega, .inl (by omega)⟩ hx
      have hK : kAt xs ys s.i (s.j + 1) = kAt xs ys s.i s.j := by
        rcases Nat.lt_or_ge s.i xs.length with h | h
        · have := kAt_step d xs ys s.i s.j h a1
          have a2' : ¬ kAt xs ys s.i (s.j + 1) ≤ kAt xs ys (s.i + 1) s.j := fun e => hx ⟨h, .inr e⟩
          split at this
          · rename_i e
            have : ¬ kAt xs ys s.i s.j = kAt xs ys (s.i + 1) (s.j + 1) + 1 := fun e' => hk ⟨h, a1, e, e'⟩
            have := kAt_le xs ys s.i s.j
            omega
          · omega
        · rw [kAt_end_l _ _ _ _ h, kAt_end_l _ _ _ _ h]
      refine ⟨p, q, ⟨hi, a1, hp, by show q ≤ s.j + 1; omega, I.fit, I.all, fun e => (by cases e), ?_, I.ends, ?_, ?_, I.pw, I.full, I.sub⟩⟩
      · rintro h ⟨⟩
        refine ⟨k1, k2, ?_, by simp; omega⟩
        show s.hk.new ++ [ys.getD s.j d] = _
        rw [k3]; exact (take_ext d ys q s.j hq a1).symm
      · rw [out_size]
        show hksSize s.fin + (s.hk.old.length + (s.hk.new ++ [ys.getD s.j d]).length) + 2 * (lcs xs ys - kAt xs ys s.i (s.j + 1)) = s.i + (s.j + 1)
        rw [hK, List.length_append, List.length_singleton]; omega
      · show kAt xs ys s.i (s.j + 1) ≤ _
        omega
theorem inv_at (d : α) (xs ys : List α) : ∀ k, ∃ p q, InvD d xs ys (stD d xs ys k) p q
  | 0 => ⟨0, 0, inv_start d xs ys⟩
  | k + 1 => by obtain ⟨p, q, I⟩ := inv_at d xs ys k; exact inv_step d xs ys _ p q I
theorem step_moves (d : α) (xs ys : List α) (s : DSt α) (h : doneD xs ys s = false) : s.i + s.j + 1 ≤ (stepD d xs ys s).i + (stepD d xs ys s).j := by
  unfold stepD
  rw [h]
  simp only [Bool.false_eq_true, if_false]
  split
  · simp [keepSt]; omega
  · split
    · simp [delSt]; omega
    · simp [insSt]; omega
theorem stD_done (d : α) (xs ys : List α) {k m : Nat} (h : doneD xs ys (stD d xs ys k) = true) (hkm : k ≤ m) : stD d xs ys m = stD d xs ys k := by
  induction m with
  | zero => obtain rfl : k = 0 := by omega
            rfl
  | succ m ih =>
    by_cases e : k = m + 1
    · subst e; rfl
    · have := ih (by omega)
      show stepD d xs ys (stD d xs ys m) = _
      rw [this]; unfold stepD; rw [if_pos h]
theorem stD_far (d : α) (xs ys : List α) : ∀ k, doneD xs ys (stD d xs ys k) = true ∨ k ≤ (stD d xs ys k).i + (stD d xs ys k).j
  | 0 => .inr (Nat.zero_le _)
  | k + 1 => by
    by_cases h : doneD xs ys (stD d xs ys k) = true
    · left; rw [stD_done d xs ys h (Nat.le_succ k)]; exact h
    · have h' : doneD xs ys (stD d xs ys k) = false := by simpa using h
      have := step_moves d xs ys _ h'
      rcases stD_far d xs ys k with g | g
      · exact absurd g h
      · right
        show k + 1 ≤ (stepD d xs ys (stD d xs ys k)).i + (stepD d xs ys (stD d xs ys k)).j
        omega
theorem stD_end (d : α) (xs ys : List α) : doneD xs ys (stD d xs ys (xs.length + ys.length)) = true := by
  rcases stD_far d xs ys (xs.length + ys.length) with h | h
  · exact h
  · obtain ⟨p, q, I⟩ := inv_at d xs ys (xs.length + ys.length)
    have := I.hi; have := I.hj
    simp only [doneD, decide_eq_true_eq]; omega
/-- Wherever the loop ends, the hunks are diffL. -/
theorem diffL_of (d : α) (xs ys : List α) {k : Nat} (h : doneD xs ys (stD d xs ys k) = true) : (stD d xs ys k).out = diffL d xs ys := by
  unfold diffL
  rcases Nat.le_total k (xs.length + ys.length) with g | g
  · rw [stD_done d xs ys h g]
  · rw [stD_done d xs ys (stD_end d xs ys) g]
theorem diffL_facts (d : α) (xs ys : List α) : hkFit xs (diffL d xs ys) ∧ hkAll xs (diffL d xs ys) = ys ∧ (diffL d xs ys).Pairwise (fun a b => a.pos + a.new.length < b.pos) ∧ (∀ h ∈ diffL d xs ys, 0 < h.old.length + h.new.length ∧ h.pos + h.new.length ≤ ys.length) ∧ (∀ h ∈ diffL d xs ys, (∀ x ∈ h.old, x ∈ xs) ∧ (∀ x ∈ h.new, x ∈ ys)) ∧ hksSize (diffL d xs ys) + 2 * lcs xs ys = xs.length + ys.length := by
  obtain ⟨p, q, I⟩ := inv_at d xs ys (xs.length + ys.length)
  have he := stD_end d xs ys
  simp only [doneD, decide_eq_true_eq] at he
  have h1 := I.hi; have h2 := I.hj
  obtain ⟨c1, c2, c3, c4, c5, c6⟩ := close_inv I
  have hc := I.cost
  rw [kAt_end_l _ _ _ _ he.1] at hc
  refine ⟨c1, ?_, c4, fun h hh => ⟨c5 h hh, by have := c3 h hh; omega⟩, c6, ?_⟩
  · show hkAll xs (stD d xs ys (xs.length + ys.length)).out = ys
    rw [c2, List.take_of_length_le he.2, List.drop_of_length_le he.1, List.append_nil]
  · show hksSize (stD d xs ys (xs.length + ys.length)).out + _ = _
    omega
/-- No hunks that make ys of xs are smaller. -/
theorem least (xs : List α) : ∀ (hs : List (Hk α)) (l : List α), hkFit l hs → xs.length + (hkAll l hs).length + 2 * lcs xs l ≤ xs.length + l.length + 2 * lcs xs (hkAll l hs) + hksSize hs
  | [], l, _ => by simp [hkAll, hksSize]
  | h :: hs, l, hf => by
    obtain ⟨⟨f1, f2⟩, f3⟩ := hf
    have ih := least xs hs (hkApply l h) f3
    have e : l = l.take h.pos ++ h.old ++ l.drop (h.pos + h.old.length) := by
      conv => lhs; rw [← List.take_append_drop h.pos l, ← List.take_append_drop h.old.length (l.drop h.pos), f2, List.drop_drop]
      rw [List.append_assoc]
    have hm := lcs_mid xs (l.take h.pos) h.old h.new (l.drop (h.pos + h.old.length))
    rw [← e] at hm
    have hm' : lcs xs l ≤ lcs xs (hkApply l h) + h.old.length := hm
    have el : l.length = (l.take h.pos).length + h.old.length + (l.drop (h.pos + h.old.length)).length := by
      conv => lhs; rw [e]
      simp only [List.length_append]
    have el2 : (hkApply l h).length = (l.take h.pos).length + h.new.length + (l.drop (h.pos + h.old.length)).length := by
      unfold hkApply; simp only [List.length_append]
    show xs.length + (hkAll (hkApply l h) hs).length + 2 * lcs xs l ≤ xs.length + l.length + 2 * lcs xs (hkAll (hkApply l h) hs) + hksSize (h :: hs)
    have es : hksSize (h :: hs) = h.old.length + h.new.length + hksSize hs := by simp [hksSize, hkSize]
    omega
theorem least_diff (d : α) (xs : List α) (hs : List (Hk α)) (hf : hkFit xs hs) : hksSize (diffL d xs (hkAll xs hs)) ≤ hksSize hs := by
  have h1 := least xs hs xs hf
  have h2 := (diffL_facts d xs (hkAll xs hs)).2.2.2.2.2
  rw [lcs_self] at h1
  have := lcs_le_l xs (hkAll xs hs)
  omega
theorem diff_back (d : α) (xs ys : List α) : hksSize (diffL d xs ys) = hksSize (diffL d ys xs) := by
  have h1 := (diffL_facts d xs ys).2.2.2.2.2
  have h2 := (diffL_facts d ys xs).2.2.2.2.2
  rw [lcs_symm] at h2; omega
end Go.Proofs.Ytkbapegohodcgaa.Dif
