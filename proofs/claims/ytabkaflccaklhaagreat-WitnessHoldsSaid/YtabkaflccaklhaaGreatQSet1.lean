/- Joined: QSet0 QPick QSetM QSetR QSetP QSetE QSetK. -/
import Derived.Test.YtabkaflccaklhaaGreatQKit1
import Derived.Test.YtabkaflccaklhaaGreatQIdx1
import Derived.Test.YtabkaflccaklhaaGreatQBase1
set_option linter.unusedSimpArgs false
set_option linter.unusedVariables false
section
/- Rows of ids: their beginnings and ends; two functions that call with two truths. -/
namespace Go.Qk
open Go.RowKit
theorem addr_add_add (ad : Addr) (i j : Nat) : (ad.add i).add j = ad.add (i + j) := by
  unfold Addr.add
  by_cases hi : i = 0
  · subst hi; simp
  · by_cases hj : j = 0
    · subst hj; simp
    · simp [hi, hj, Nat.add_assoc]
theorem idRow_drop {w : World} {ad : Addr} {xs : List (List UInt8)} (h : IdRow w (some ad) xs) (k : Nat) : IdRow w (some (ad.add (k * 32))) (xs.drop k) := by
  refine ⟨by rw [List.length_drop]; have := h.1; omega, fun _ => ⟨_, rfl, fun i hi j v hv => ?_⟩⟩
  rw [List.length_drop] at hi
  have hk : k + i < xs.length := by omega
  obtain ⟨ad', e, hc⟩ := h.2 (by intro e; subst e; simp at hk)
  obtain rfl := Option.some.inj e
  have hg : (xs.drop k).getD i [] = xs.getD (k + i) [] := by simp [hk]
  rw [hg] at hv
  have := hc (k + i) hk j v hv
  rw [addr_add_add, addr_add_add] at *
  rw [show k * 32 + (i * 32 + j) = (k + i) * 32 + j by omega]
  exact this
theorem idRow_take {w : World} {A : Option Addr} {xs : List (List UInt8)} (h : IdRow w A xs) (k : Nat) : IdRow w A (xs.take k) := by
  refine ⟨by rw [List.length_take]; have := h.1; omega, fun hne => ?_⟩
  have hx : xs ≠ [] := by intro e; subst e; simp at hne
  obtain ⟨ad, e, hc⟩ := h.2 hx
  refine ⟨ad, e, fun i hi j v hv => ?_⟩
  rw [List.length_take] at hi
  have hg : (xs.take k).getD i [] = xs.getD i [] := by simp [List.getElem?_take, show i < k by omega]
  rw [hg] at hv
  exact hc i (by omega) j v hv
theorem idRow_nil (w : World) (A : Option Addr) : IdRow w A [] := ⟨by simp, fun h => absurd rfl h⟩
/-- What is behind the first. -/
def tailA (ad : Addr) (c : Nat) : Addr := if c = 1 then ad else ad.add 32
theorem idRow_tail {w : World} {ad : Addr} {x : List UInt8} {xs : List (List UInt8)} {c : Nat} (h : IdRow w (some ad) (x :: xs)) (hc : xs.length + 1 ≤ c) : IdRow w (some (tailA ad c)) xs := by
  unfold tailA
  split
  · obtain rfl : xs = [] := List.eq_nil_of_length_eq_zero (by omega)
    exact idRow_nil _ _
  · exact idRow_drop h 1
theorem lexLess_asymm : ∀ (l m : List UInt8), lexLess l m = true → lexLess m l = false
  | [], _, h => by simp [lexLess] at h
  | _ :: _, [], h => by simp [lexLess] at h
  | a :: l, b :: m, h => by
    by_cases e : a = b
    · subst e
      simp only [lexLess, if_true] at h ⊢
      exact lexLess_asymm l m h
    · simp only [lexLess, if_neg e, if_neg (Ne.symm e), decide_eq_true_eq, decide_eq_false_iff_not, UInt8.lt_iff_toNat_lt] at h ⊢
      omega
end Go.Qk
namespace Go.Proofs.YtabkaflccaklhaaGreat
open Go.RowKit
open Go.Qk hiding rotr b4
set_option maxHeartbeats 1000000
set_option maxRecDepth 100000
def RetRow (B : Nat) (w : World) (xs : List (List UInt8)) (e : Ending) (w' : World) : Prop := ∃ v, e = .returned v ∧ OwnIds 42 B w' v xs ∧ Below w.heap.size w w'
theorem own_store {B g : Nat} {w w' : World} {v : Value} {xs : List (List UInt8)} (h : OwnIds 42 B w v xs) (hg : w.grownBy w' (some g)) (hne : v.ownBlock ≠ some g) : OwnIds 42 B w' v xs := ⟨h.1.kept hg (.inr hne), h.2⟩
theorem own_ne {B g : Nat} {w : World} {v : Value} {xs : List (List UInt8)} (h : OwnIds 42 B w v xs) (hg : w.heap.size ≤ g) : v.ownBlock ≠ some g := fun e => by have := (h.1.lt g e).2; omega
theorem run_tail {ad : Addr} {n c : Nat} (hn : 1 ≤ n) (w : World) : (Instr.sliceAt 56 (.slice (some ad) n c) (some (.int .i64 1)) none none).run Tryz.prog w = .ok (.slice (some (tailA ad c)) (n - 1) (c - 1)) w := by
  have h1 : (1 : Int) ≤ (n : Int) := by omega
  go_simp
  unfold tailA Addr.add
  split <;> simp_all
end Go.Proofs.YtabkaflccaklhaaGreat
end
section
/- A region of open order: operations that hang on no world come first, in a row that is given; the others come one behind the other. -/
namespace Go.Qk
open Go.RowKit
section
variable {P : Program} {ops : Array Oper} {md : Region.Mode} {Q : Exit → Act → World → Prop}
def apartB (md : Region.Mode) (ops : Array Oper) (p : Nat) (listed : Array Bool) : Bool :=
  (List.range ops.size).all fun j => j == p || listed.getD j true || (match ops[p]?, ops[j]? with
    | some op, some oj => (oj.after.any fun e => Region.binds md e && e.on == p) || op.apart ops oj
    | _, _ => false)
def okSeq (md : Region.Mode) (ops : Array Oper) : List Nat → Array Bool → Bool
  | k :: ks, listed => decide (Region.ready md ops listed = [k]) && okSeq md ops ks (listed.setIfInBounds k true)
  | [], listed => (Region.ready md ops listed).isEmpty
def okPick (md : Region.Mode) (ops : Array Oper) (ks : List Nat) : List Nat → Array Bool → Bool
  | p :: ps, listed => (Region.ready md ops listed).contains p && apartB md ops p listed && okPick md ops ks ps (listed.setIfInBounds p true)
  | [], listed => okSeq md ops ks listed
/-- What is to be shown. -/
def Pick (P : Program) (ops : Array Oper) (Q : Exit → Act → World → Prop) (ks : List Nat) : List Nat → Act → World → Prop
  | p :: ps, a, w => ∃ o v, ops[p]? = some o ∧ Yields P ops o v a ∧ (∀ c a w, Q (.panic c) (a.put o.dst v) w → Q (.panic c) a w) ∧ Pick P ops Q ks ps (a.put o.dst v) w
  | [], a, w => wpList P ops Q (ks.filterMap (ops[·]?)) a w
theorem pick_seq : ∀ (ks : List Nat) (listed : Array Bool) (a : Act) (w : World), listed.size = ops.size → okSeq md ops ks listed = true → wpList P ops Q (ks.filterMap (ops[·]?)) a w → wpAny P md ops Q ks.length listed a w
  | [], listed, a, w, _, hok, h => ⟨by simpa [okSeq] using hok, h⟩
  | k :: ks, listed, a, w, hsz, hok, h => by
    simp only [okSeq, Bool.and_eq_true, decide_eq_true_eq] at hok
    have hk : k ∈ Region.ready md ops listed := by rw [hok.1]; exact List.mem_cons_self
    obtain ⟨_, o, ho, _⟩ := mem_ready.1 hk
    have hf : (k :: ks).filterMap (ops[·]?) = o :: ks.filterMap (ops[·]?) := by rw [List.filterMap_cons, ho]
    rw [hf] at h
    refine ⟨fun h1 => (by rw [hok.1] at h1; cases h1), fun i hi => ?_⟩
    rw [hok.1] at hi
    obtain rfl : i = k := by simpa using hi
    have hw : wpOp P ops Q i (wpList P ops Q (ks.filterMap (ops[·]?))) a w := by unfold wpOp; simp only [ho]; exact h
    exact wpOp_mono (fun a' w' h' => pick_seq ks _ a' w' (by simpa using hsz) hok.2 h') hw
theorem pick_any (hns : Region.noSelect ops = true) : ∀ (ps ks : List Nat) (listed : Array Bool) (a : Act) (w : World), listed.size = ops.size → okPick md ops ks ps listed = true → Pick P ops Q ks ps a w → wpAny P md ops Q (ps.length + ks.length) listed a w
  | [], ks, listed, a, w, hsz, hok, h => by
    have := pick_seq (P := P) (Q := Q) ks listed a w hsz hok h
    simpa using this
  | p :: ps, ks, listed, a, w, hsz, hok, h => by
    obtain ⟨o, v, ho, hy, hq, hr⟩ := h
    simp only [okPick, Bool.and_eq_true] at hok
    obtain ⟨⟨h1, h2⟩, h3⟩ := hok
    have ih := pick_any hns ps ks (listed.setIfInBounds p true) (a.put o.dst v) w (by simpa using hsz) h3 hr
    have e : (p :: ps).length + ks.length = (ps.length + ks.length) + 1 := by simp; omega
    rw [e]
    refine wpAny_first (md := md) ho (fun j o cs b hj => Region.noSelect_spec hns j o cs b hj) hq _ listed a w ?_ (by simpa using h1) hy ih
    intro j oj hj hne hl hnw
    have hjs : j < ops.size := (Array.getElem?_eq_some_iff.1 hj).1
    have h4 := List.all_eq_true.1 h2 j (List.mem_range.2 hjs)
    rw [ho, hj] at h4
    simp only [Bool.or_eq_true, beq_iff_eq, hne, hl, Bool.false_eq_true, false_or, or_false] at h4
    rcases h4 with h4 | h4
    · obtain ⟨i, hi, hb⟩ := Array.any_eq_true.1 h4
      simp only [Bool.and_eq_true, beq_iff_eq] at hb
      exact absurd hb.2 (hnw _ (Array.getElem_mem hi) hb.1)
    · exact h4
theorem wp_region_pick {id : Nat} {a : Act} {w : World} {l : List Oper} (ps ks : List Nat) (hm : P.follows .mixedOrders = true) (hns : Region.noSelect l.toArray = true) (hlen : ps.length + ks.length = l.toArray.size) (hok : okPick .any l.toArray ks ps (Array.replicate l.toArray.size false) = true)
    (h : Pick P l.toArray Q ks ps a { w with drawn := w.drawn + 1 }) : (Code.region id l.toArray true).wp P Q a w := by
  refine wp_region_any hm ?_
  have := pick_any (P := P) (md := .any) (Q := Q) hns ps ks (Array.replicate l.toArray.size false) a { w with drawn := w.drawn + 1 } (by simp) hok h
  rw [hlen] at this
  exact this
theorem pick_val {ps ks : List Nat} {p : Nat} {a : Act} {w : World} {o : Oper} {v : Value} (ho : ops[p]? = some o) (hwant : Region.wanted o (yielded ops a.tmps) = true) (hrun : ∀ w, (execOp a.eval o).run P w = .ok (.value v) w)
    (hq : ∀ c a w, Q (.panic c) (a.put o.dst v) w → Q (.panic c) a w) (h : Pick P ops Q ks ps (a.put o.dst v) w) : Pick P ops Q ks (p :: ps) a w := ⟨o, v, ho, .inl ⟨hwant, hrun⟩, hq, h⟩
theorem pick_nil {ks : List Nat} {a : Act} {w : World} (h : wpList P ops Q (ks.filterMap (ops[·]?)) a w) : Pick P ops Q ks [] a w := h
theorem grow_drawn (w : World) : Grow w { w with drawn := w.drawn + 1 } := Below.drew (Below.refl _ _)
end
end Go.Qk
end
section
/- id.merge: contract. -/
namespace Go.Proofs.YtabkaflccaklhaaGreat
open Go.RowKit
open Go.Qk hiding rotr b4
set_option maxHeartbeats 2000000
set_option maxRecDepth 100000
abbrev IdL := List UInt8
/-- Two rows, gone through; what counts is kept. -/
def mergeN (cnt : Bool → Bool → Bool) : Nat → List IdL → List IdL → List IdL
  | 0, _, _ => []
  | _ + 1, [], [] => []
  | n + 1, [], y :: b => (if cnt false true then [y] else []) ++ mergeN cnt n [] b
  | n + 1, x :: a, [] => (if cnt true false then [x] else []) ++ mergeN cnt n a []
  | n + 1, x :: a, y :: b =>
    if lexLess y x then (if cnt false true then [y] else []) ++ mergeN cnt n (x :: a) b
    else if lexLess x y then (if cnt true false then [x] else []) ++ mergeN cnt n a (y :: b)
    else (if cnt true true then [x] else []) ++ mergeN cnt n a b
theorem mergeN_nil (cnt : Bool → Bool → Bool) (n : Nat) : mergeN cnt n [] [] = [] := by cases n <;> rfl
end Go.Proofs.YtabkaflccaklhaaGreat
end
section
/- The references for rows of ids: Has, Put, Sort, Only. -/
namespace Go.Qk
open Go.RowKit
/-- A slice value that reads as ids, with room for them. -/
def IdSlC (w : World) (v : Value) (xs : List (List UInt8)) : Prop := (∃ A c, v = .slice A xs.length c ∧ xs.length ≤ c ∧ IdRow w A xs) ∧ ∀ s ∈ xs, s.length = 32
theorem IdSlC.grow {w w1 : World} {v : Value} {xs : List (List UInt8)} (h : IdSlC w v xs) (hg : Grow w w1) : IdSlC w1 v xs := by
  obtain ⟨⟨A, c, e, h0, h1⟩, h2⟩ := h
  exact ⟨⟨A, c, e, h0, h1.grow hg⟩, h2⟩
theorem OwnIds.slc {e : TypeId} {B : Nat} {w : World} {v : Value} {xs : List (List UInt8)} (h : OwnIds e B w v xs) : IdSlC w v xs := by
  obtain ⟨⟨A, c, hv, hr⟩, h32⟩ := h.sl
  refine ⟨⟨A, c, hv, ?_, hr⟩, h32⟩
  rcases h.1.2 with ⟨rfl, h0⟩ | ⟨g, cap, cur, rfl, _, _, hc, _⟩
  · injection hv with _ h1 h2
    omega
  · injection hv with _ h1 h2
    omega
/-- A row with one more, before the first that is above it. -/
def ins (a : List UInt8) : List (List UInt8) → List (List UInt8)
  | [] => [a]
  | y :: l => if lexLess a y then a :: y :: l else y :: ins a l
def hasL (l : List (List UInt8)) (a : List UInt8) : Bool := l.contains a
def putL (l : List (List UInt8)) (a : List UInt8) : List (List UInt8) := if l.contains a then l else ins a l
def sortL (l : List (List UInt8)) : List (List UInt8) := l.foldl putL []
theorem ins_length (a : List UInt8) : ∀ l, (ins a l).length = l.length + 1
  | [] => rfl
  | y :: l => by
    unfold ins
    split
    · rfl
    · rw [List.length_cons, ins_length a l, List.length_cons]
theorem ins_mem (a : List UInt8) : ∀ (l : List (List UInt8)) (s : List UInt8), s ∈ ins a l → s = a ∨ s ∈ l
  | [], s, h => by simp [ins] at h; exact .inl h
  | y :: l, s, h => by
    unfold ins at h
    split at h
    · simpa using h
    · rcases List.mem_cons.1 h with h | h
      · exact .inr (h ▸ List.mem_cons_self)
      · rcases ins_mem a l s h with h | h
        · exact .inl h
        · exact .inr (List.mem_cons_of_mem _ h)
theorem putL_32 {l : List (List UInt8)} {a : List UInt8} (hl : ∀ s ∈ l, s.length = 32) (ha : a.length = 32) : ∀ s ∈ putL l a, s.length = 32 := by
  intro s hs
  unfold putL at hs
  split at hs
  · exact hl s hs
  · rcases ins_mem a l s hs with h | h
    · rw [h, ha]
    · exact hl s h
theorem putL_length (l : List (List UInt8)) (a : List UInt8) : (putL l a).length ≤ l.length + 1 := by
  unfold putL
  split
  · omega
  · rw [ins_length]; omega
theorem sortTo_32 (l : List (List UInt8)) (hl : ∀ s ∈ l, s.length = 32) (k : Nat) : ∀ s ∈ sortL (l.take k), s.length = 32 := by
  have gen : ∀ (m acc : List (List UInt8)), (∀ s ∈ m, s.length = 32) → (∀ s ∈ acc, s.length = 32) → ∀ s ∈ m.foldl putL acc, s.length = 32 := by
    intro m
    induction m with
    | nil => intro acc _ h; exact h
    | cons a m ih =>
      intro acc h1 h2
      exact ih _ (fun s hs => h1 s (List.mem_cons_of_mem _ hs)) (putL_32 h2 (h1 a List.mem_cons_self))
  exact gen _ [] (fun s hs => hl s (List.mem_of_mem_take hs)) (fun s hs => by cases hs)
theorem sortL_length (l : List (List UInt8)) : (sortL l).length ≤ l.length := by
  have gen : ∀ (m acc : List (List UInt8)), (m.foldl putL acc).length ≤ acc.length + m.length := by
    intro m
    induction m with
    | nil => intro acc; simp
    | cons a m ih =>
      intro acc
      have h1 := ih (putL acc a)
      have h2 := putL_length acc a
      simp only [List.foldl_cons, List.length_cons]
      omega
  have := gen l []
  simpa [sortL] using this
theorem sortTo_succ (l : List (List UInt8)) (k : Nat) (h : k < l.length) : sortL (l.take (k + 1)) = putL (sortL (l.take k)) (l.getD k []) := by
  unfold sortL
  rw [List.take_succ_eq_append_getElem h, List.foldl_append]
  simp [h]
end Go.Qk
namespace Go.Proofs.YtabkaflccaklhaaGreat
open Go.RowKit
open Go.Qk hiding rotr b4
set_option maxHeartbeats 1000000
set_option maxRecDepth 100000
def RetSl (w : World) (xs : List (List UInt8)) (e : Ending) (w' : World) : Prop := ∃ v, e = .returned v ∧ IdSlC w' v xs ∧ Below w.heap.size w w'
theorem empty_own (w : World) (B : Nat) (hB : B ≤ w.heap.size) : OwnIds 42 B (w.alloc (.cells #[] 42)) (.slice (some ⟨w.heap.size, 0, none⟩) 0 0) [] :=
  ⟨⟨rfl, .inr ⟨w.heap.size, 0, #[], rfl, hB, heap_alloc_new _ _, Nat.le_refl _, by simp [maxLen], rfl, rfl⟩⟩, fun _ h => by cases h⟩
theorem contains_take (l : List (List UInt8)) (a : List UInt8) (k : Nat) (h : k < l.length) : (l.take (k + 1)).contains a = ((l.take k).contains a || (l.getD k [] == a)) := by
  rw [List.take_succ_eq_append_getElem h]
  have e : l.getD k [] = l[k] := by simp [h]
  rw [e, Bool.eq_iff_iff, List.contains_iff_mem, List.mem_append, Bool.or_eq_true, List.contains_iff_mem, List.mem_singleton, beq_iff_eq]
  exact ⟨fun h => h.imp id Eq.symm, fun h => h.imp id Eq.symm⟩
theorem ins_split (a : List UInt8) : ∀ (l : List (List UInt8)) (k : Nat), (∀ i, i < k → i < l.length → lexLess a (l.getD i []) = false) → k ≤ l.length → ins a l = l.take k ++ ins a (l.drop k)
  | l, 0, _, _ => rfl
  | [], k + 1, _, h => by simp at h
  | y :: l, k + 1, h, hk => by
    have h0 := h 0 (by omega) (by simp)
    simp only [List.getD_cons_zero] at h0
    rw [ins, if_neg (by rw [h0]; simp), ins_split a l k (fun i hi hl => by have := h (i + 1) (by omega) (by simpa using hl); simpa using this) (by simpa using hk)]
    rfl
def onlyL (a b : List (List UInt8)) (h : Bool) : List (List UInt8) := a.filter (fun x => hasL b x == h)
theorem onlyL_succ (a b : List (List UInt8)) (h : Bool) (k : Nat) (hk : k < a.length) : onlyL (a.take (k + 1)) b h = onlyL (a.take k) b h ++ (if hasL b (a.getD k []) == h then [a.getD k []] else []) := by
  rw [List.take_succ_eq_append_getElem hk, onlyL, List.filter_append]
  have e : a.getD k [] = a[k] := by simp [hk]
  rw [e]
  simp [onlyL, List.filter_cons]
theorem onlyL_32 {a b : List (List UInt8)} {h : Bool} (ha : ∀ s ∈ a, s.length = 32) : ∀ s ∈ onlyL a b h, s.length = 32 := fun s hs => ha s (List.mem_filter.1 hs).1
end Go.Proofs.YtabkaflccaklhaaGreat
end
section
/- Rows of ids that rise: lists alone. -/
namespace Go.Qk
open Go.RowKit
theorem lexLess_trans : ∀ (a b c : List UInt8), lexLess a b = true → lexLess b c = true → lexLess a c = true
  | [], _, _, h, _ => by simp [lexLess] at h
  | _ :: _, [], _, h, _ => by simp [lexLess] at h
  | _ :: _, _ :: _, [], _, h => by simp [lexLess] at h
  | x :: a, y :: b, z :: c, h1, h2 => by
    by_cases e : x = y
    · subst e
      by_cases f : x = z
      · subst f
        simp only [lexLess, if_true] at h1 h2 ⊢
        exact lexLess_trans a b c h1 h2
      · simp only [lexLess, if_neg f] at h2 ⊢
        exact h2
    · by_cases f : y = z
      · subst f
        simp only [lexLess, if_neg e] at h1 ⊢
        exact h1
      · simp only [lexLess, if_neg e, if_neg f, decide_eq_true_eq, UInt8.lt_iff_toNat_lt] at h1 h2
        have g : x ≠ z := by rintro rfl; omega
        simp only [lexLess, if_neg g, decide_eq_true_eq, UInt8.lt_iff_toNat_lt]
        omega
theorem lexLess_tri : ∀ (a b : List UInt8), a.length = b.length → lexLess a b = false → lexLess b a = false → a = b
  | [], [], _, _, _ => rfl
  | [], _ :: _, h, _, _ => by simp at h
  | _ :: _, [], h, _, _ => by simp at h
  | x :: a, y :: b, h, h1, h2 => by
    by_cases e : x = y
    · subst e
      simp only [lexLess, if_true] at h1 h2
      rw [lexLess_tri a b (by simpa using h) h1 h2]
    · simp only [lexLess, if_neg e, if_neg (Ne.symm e), decide_eq_false_iff_not, UInt8.lt_iff_toNat_lt] at h1 h2
      exact absurd (UInt8.toNat_inj.1 (by omega)) e
/-- Each one is above those ahead. -/
def Rises (l : List (List UInt8)) : Prop := l.Pairwise fun a b => lexLess a b = true
theorem rises_ext : ∀ (l m : List (List UInt8)), Rises l → Rises m → (∀ x, x ∈ l ↔ x ∈ m) → l = m
  | [], [], _, _, _ => rfl
  | [], y :: m, _, _, h => by have := (h y).2 List.mem_cons_self; cases this
  | x :: l, [], _, _, h => by have := (h x).1 List.mem_cons_self; cases this
  | x :: l, y :: m, h1, h2, h => by
    obtain ⟨a1, b1⟩ := List.pairwise_cons.1 h1
    obtain ⟨a2, b2⟩ := List.pairwise_cons.1 h2
    have e : x = y := by
      rcases List.mem_cons.1 ((h x).1 List.mem_cons_self) with e | hx
      · exact e
      · rcases List.mem_cons.1 ((h y).2 List.mem_cons_self) with e | hy
        · exact e.symm
        · have h3 := a2 x hx
          have h4 := lexLess_asymm _ _ (a1 y hy)
          rw [h3] at h4
          cases h4
    subst e
    have nx : ∀ (k : List (List UInt8)), (∀ a ∈ k, lexLess x a = true) → x ∉ k := fun k hk hx => by
      have := hk x hx
      rw [lexLess_self] at this
      cases this
    rw [rises_ext l m b1 b2 fun z => ?_]
    constructor
    · intro hz
      rcases List.mem_cons.1 ((h z).1 (List.mem_cons_of_mem _ hz)) with e | hz2
      · subst e; exact absurd hz (nx l a1)
      · exact hz2
    · intro hz
      rcases List.mem_cons.1 ((h z).2 (List.mem_cons_of_mem _ hz)) with e | hz2
      · subst e; exact absurd hz (nx m a2)
      · exact hz2
theorem mem_ins (a x : List UInt8) : ∀ l, x ∈ ins a l ↔ x = a ∨ x ∈ l
  | [] => by simp [ins]
  | y :: l => by
    unfold ins
    split
    · simp
    · rw [List.mem_cons, mem_ins a x l, List.mem_cons]
      constructor
      · rintro (h | h | h)
        · exact .inr (.inl h)
        · exact .inl h
        · exact .inr (.inr h)
      · rintro (h | h | h)
        · exact .inr (.inl h)
        · exact .inl h
        · exact .inr (.inr h)
theorem ins_rises (a : List UInt8) (ha : a.length = 32) : ∀ l, Rises l → (∀ s ∈ l, s.length = 32) → a ∉ l → Rises (ins a l)
  | [], _, _, _ => by simp [ins, Rises]
  | y :: l, h, h32, hn => by
    obtain ⟨h1, h2⟩ := List.pairwise_cons.1 h
    unfold ins
    split
    · rename_i hl
      refine List.pairwise_cons.2 ⟨fun z hz => ?_, h⟩
      rcases List.mem_cons.1 hz with e | hz
      · rw [e]; exact hl
      · exact lexLess_trans _ _ _ hl (h1 z hz)
    · rename_i hl
      refine List.pairwise_cons.2 ⟨fun z hz => ?_, ins_rises a ha l h2 (fun s hs => h32 s (List.mem_cons_of_mem _ hs)) (fun h => hn (List.mem_cons_of_mem _ h))⟩
      rcases (mem_ins a z l).1 hz with e | hz
      · subst e
        cases hy : lexLess y z with
        | true => rfl
        | false => exact absurd (lexLess_tri z y (by rw [ha, h32 y List.mem_cons_self]) (by simpa using hl) hy) (fun e => hn (e ▸ List.mem_cons_self))
      · exact h1 z hz
theorem putL_rises {l : List (List UInt8)} {a : List UInt8} (h : Rises l) (h32 : ∀ s ∈ l, s.length = 32) (ha : a.length = 32) : Rises (putL l a) := by
  unfold putL
  split
  · exact h
  · rename_i hc
    exact ins_rises a ha l h h32 (by simpa using hc)
theorem mem_putL (l : List (List UInt8)) (a x : List UInt8) : x ∈ putL l a ↔ x = a ∨ x ∈ l := by
  unfold putL
  split
  · rename_i hc
    constructor
    · exact .inr
    · rintro (e | h)
      · rw [e]; simpa using hc
      · exact h
  · exact mem_ins a x l
theorem fold_putL : ∀ (m acc : List (List UInt8)), (∀ s ∈ m, s.length = 32) → (∀ s ∈ acc, s.length = 32) → Rises acc → Rises (m.foldl putL acc) ∧ ∀ x, x ∈ m.foldl putL acc ↔ x ∈ m ∨ x ∈ acc
  | [], acc, _, _, h => ⟨h, fun x => by simp⟩
  | a :: m, acc, h1, h2, h => by
    have ha := h1 a List.mem_cons_self
    obtain ⟨r1, r2⟩ := fold_putL m (putL acc a) (fun s hs => h1 s (List.mem_cons_of_mem _ hs)) (putL_32 h2 ha) (putL_rises h h2 ha)
    refine ⟨r1, fun x => ?_⟩
    rw [List.foldl_cons, r2 x, mem_putL, List.mem_cons]
    constructor
    · rintro (h | h | h)
      · exact .inl (.inr h)
      · exact .inl (.inl h)
      · exact .inr h
    · rintro ((h | h) | h)
      · exact .inr (.inl h)
      · exact .inl h
      · exact .inr (.inr h)
theorem sortL_rises (l : List (List UInt8)) (h : ∀ s ∈ l, s.length = 32) : Rises (sortL l) := (fold_putL l [] h (fun _ h => by cases h) List.Pairwise.nil).1
theorem mem_sortL (l : List (List UInt8)) (h : ∀ s ∈ l, s.length = 32) (x : List UInt8) : x ∈ sortL l ↔ x ∈ l := by
  have := (fold_putL l [] h (fun _ h => by cases h) List.Pairwise.nil).2 x
  simpa [sortL] using this
theorem sortL_32 (l : List (List UInt8)) (h : ∀ s ∈ l, s.length = 32) : ∀ s ∈ sortL l, s.length = 32 := fun s hs => h s ((mem_sortL l h s).1 hs)
end Go.Qk
namespace Go.Proofs.YtabkaflccaklhaaGreat
open Go.RowKit
open Go.Qk hiding rotr b4
theorem merge_law (cnt : Bool → Bool → Bool) : ∀ (n : Nat) (a b : List IdL), a.length + b.length ≤ n → Rises a → Rises b → (∀ s ∈ a, s.length = 32) → (∀ s ∈ b, s.length = 32) →
    Rises (mergeN cnt n a b) ∧ ∀ x, x ∈ mergeN cnt n a b ↔ (x ∈ a ∨ x ∈ b) ∧ cnt (decide (x ∈ a)) (decide (x ∈ b)) = true
  | 0, a, b, hn, _, _, _, _ => by
    obtain rfl : a = [] := List.eq_nil_of_length_eq_zero (by omega)
    obtain rfl : b = [] := List.eq_nil_of_length_eq_zero (by omega)
    exact ⟨List.Pairwise.nil, fun x => by simp [mergeN]⟩
  | n + 1, [], [], _, _, _, _, _ => ⟨List.Pairwise.nil, fun x => by simp [mergeN]⟩
  | n + 1, [], y :: b, hn, h1, h2, g1, g2 => by
    obtain ⟨p, q⟩ := List.pairwise_cons.1 h2
    obtain ⟨r1, r2⟩ := merge_law cnt n [] b (by simp at hn ⊢; omega) h1 q g1 (fun s hs => g2 s (List.mem_cons_of_mem _ hs))
    have hy : y ∉ b := fun h => by have := p y h; rw [lexLess_self] at this; cases this
    have hm : ∀ x ∈ mergeN cnt n [] b, x ∈ b := fun x hx => by have := ((r2 x).1 hx).1; simpa using this
    constructor
    · rw [mergeN]
      split
      · exact List.pairwise_cons.2 ⟨fun z hz => p z (hm z hz), r1⟩
      · exact r1
    · intro x
      rw [mergeN, List.mem_append, r2 x]
      by_cases e : x = y
      · subst e
        cases hc : cnt false true <;> simp [hc, hy]
      · cases hc : cnt false true <;> simp [e]
  | n + 1, x :: a, [], hn, h1, h2, g1, g2 => by
    obtain ⟨p, q⟩ := List.pairwise_cons.1 h1
    obtain ⟨r1, r2⟩ := merge_law cnt n a [] (by simp at hn ⊢; omega) q h2 (fun s hs => g1 s (List.mem_cons_of_mem _ hs)) g2
    have hy : x ∉ a := fun h => by have := p x h; rw [lexLess_self] at this; cases this
    have hm : ∀ z ∈ mergeN cnt n a [], z ∈ a := fun z hz => by have := ((r2 z).1 hz).1; simpa using this
    constructor
    · rw [mergeN]
      split
      · exact List.pairwise_cons.2 ⟨fun z hz => p z (hm z hz), r1⟩
      · exact r1
    · intro z
      rw [mergeN, List.mem_append, r2 z]
      by_cases e : z = x
      · subst e
        cases hc : cnt true false <;> simp [hc, hy]
      · cases hc : cnt true false <;> simp [e]
  | n + 1, x :: a, y :: b, hn, h1, h2, g1, g2 => by
    obtain ⟨p1, q1⟩ := List.pairwise_cons.1 h1
    obtain ⟨p2, q2⟩ := List.pairwise_cons.1 h2
    have hxa : x ∉ a := fun h => by have := p1 x h; rw [lexLess_self] at this; cases this
    have hyb : y ∉ b := fun h => by have := p2 y h; rw [lexLess_self] at this; cases this
    rw [mergeN]
    cases hyx : lexLess y x with
    | true =>
      have hya : y ∉ x :: a := fun h => by
        rcases List.mem_cons.1 h with e | h
        · rw [e, lexLess_self] at hyx; cases hyx
        · have := lexLess_trans _ _ _ hyx (p1 y h); rw [lexLess_self] at this; cases this
      obtain ⟨r1, r2⟩ := merge_law cnt n (x :: a) b (by simp at hn ⊢; omega) h1 q2 g1 (fun s hs => g2 s (List.mem_cons_of_mem _ hs))
      have hm : ∀ z ∈ mergeN cnt n (x :: a) b, lexLess y z = true := fun z hz => by
        rcases ((r2 z).1 hz).1 with h | h
        · rcases List.mem_cons.1 h with e | h
          · rw [e]; exact hyx
          · exact lexLess_trans _ _ _ hyx (p1 z h)
        · exact p2 z h
      constructor
      · rw [if_pos rfl]
        split
        · exact List.pairwise_cons.2 ⟨hm, r1⟩
        · exact r1
      · intro z
        rw [if_pos rfl, List.mem_append, r2 z]
        by_cases e : z = y
        · subst e
          have e1 : decide (z ∈ x :: a) = false := decide_eq_false hya
          have e2 : decide (z ∈ z :: b) = true := decide_eq_true List.mem_cons_self
          have e3 : decide (z ∈ b) = false := decide_eq_false hyb
          rw [e1, e2, e3]
          cases hc : cnt false true <;> simp [hya, hyb]
        · have e2 : (z ∈ y :: b) ↔ z ∈ b := by simp [e]
          have d2 : decide (z ∈ y :: b) = decide (z ∈ b) := decide_eq_decide.2 e2
          rw [d2, e2]
          cases hc : cnt false true <;> simp [e]
    | false =>
      rw [if_neg (by simp)]
      cases hxy : lexLess x y with
      | true =>
        have hxb : x ∉ y :: b := fun h => by
          rcases List.mem_cons.1 h with e | h
          · rw [e, lexLess_self] at hxy; cases hxy
          · have := lexLess_trans _ _ _ hxy (p2 x h); rw [lexLess_self] at this; cases this
        obtain ⟨r1, r2⟩ := merge_law cnt n a (y :: b) (by simp at hn ⊢; omega) q1 h2 (fun s hs => g1 s (List.mem_cons_of_mem _ hs)) g2
        have hm : ∀ z ∈ mergeN cnt n a (y :: b), lexLess x z = true := fun z hz => by
          rcases ((r2 z).1 hz).1 with h | h
          · exact p1 z h
          · rcases List.mem_cons.1 h with e | h
            · rw [e]; exact hxy
            · exact lexLess_trans _ _ _ hxy (p2 z h)
        constructor
        · rw [if_pos rfl]
          split
          · exact List.pairwise_cons.2 ⟨hm, r1⟩
          · exact r1
        · intro z
          rw [if_pos rfl, List.mem_append, r2 z]
          by_cases e : z = x
          · subst e
            have e1 : decide (z ∈ y :: b) = false := decide_eq_false hxb
            have e2 : decide (z ∈ z :: a) = true := decide_eq_true List.mem_cons_self
            have e3 : decide (z ∈ a) = false := decide_eq_false hxa
            rw [e1, e2, e3]
            cases hc : cnt true false <;> simp [hxa, hxb]
          · have e2 : (z ∈ x :: a) ↔ z ∈ a := by simp [e]
            have d2 : decide (z ∈ x :: a) = decide (z ∈ a) := decide_eq_decide.2 e2
            rw [d2, e2]
            cases hc : cnt true false <;> simp [e]
      | false =>
        obtain rfl : x = y := lexLess_tri x y (by rw [g1 x List.mem_cons_self, g2 y List.mem_cons_self]) hxy hyx
        obtain ⟨r1, r2⟩ := merge_law cnt n a b (by simp at hn ⊢; omega) q1 q2 (fun s hs => g1 s (List.mem_cons_of_mem _ hs)) (fun s hs => g2 s (List.mem_cons_of_mem _ hs))
        have hm : ∀ z ∈ mergeN cnt n a b, lexLess x z = true := fun z hz => by
          rcases ((r2 z).1 hz).1 with h | h
          · exact p1 z h
          · exact p2 z h
        constructor
        · rw [if_neg (by simp)]
          split
          · exact List.pairwise_cons.2 ⟨hm, r1⟩
          · exact r1
        · intro z
          rw [if_neg (by simp), List.mem_append, r2 z]
          by_cases e : z = x
          · subst e
            have e1 : decide (z ∈ z :: a) = true := decide_eq_true List.mem_cons_self
            have e2 : decide (z ∈ z :: b) = true := decide_eq_true List.mem_cons_self
            rw [e1, e2]
            cases hc : cnt true true <;> simp [hxa, hyb]
          · have e1 : (z ∈ x :: a) ↔ z ∈ a := by simp [e]
            have e2 : (z ∈ x :: b) ↔ z ∈ b := by simp [e]
            have d1 : decide (z ∈ x :: a) = decide (z ∈ a) := decide_eq_decide.2 e1
            have d2 : decide (z ∈ x :: b) = decide (z ∈ b) := decide_eq_decide.2 e2
            rw [d1, d2, e1, e2]
            cases hc : cnt true true <;> simp [e]
end Go.Proofs.YtabkaflccaklhaaGreat
end
section
/- slices.Equal, id.Same; Union, Minus, Both: contracts. -/
namespace Go.Proofs.YtabkaflccaklhaaGreat
open Go.RowKit
open Go.Qk hiding rotr b4
set_option maxHeartbeats 1000000
set_option maxRecDepth 100000
def unionL (xs ys : List (List UInt8)) : List (List UInt8) := mergeN (fun _ _ => true) (xs.length + ys.length) xs ys
def minusL (xs ys : List (List UInt8)) : List (List UInt8) := mergeN (fun f s => f && !s) (xs.length + ys.length) xs ys
def bothL (xs ys : List (List UInt8)) : List (List UInt8) := mergeN (fun f s => f && s) (xs.length + ys.length) xs ys
end Go.Proofs.YtabkaflccaklhaaGreat
end
section
/- Rows of ids appended whole; rows of two ids; ids of one byte. -/
namespace Go.Qk
open Go.RowKit
theorem idCells_at (xs : List (List UInt8)) (h : ∀ s ∈ xs, s.length = 32) (j : Nat) (u : Value) (hj : (idCells xs)[j]? = some u) : j / 32 < xs.length ∧ (u8s (xs.getD (j / 32) []))[j % 32]? = some u := by
  have hl := (List.getElem?_eq_some_iff.1 hj).1
  rw [idCells_length xs h] at hl
  have hi : j / 32 < xs.length := by omega
  have h32 : (xs.getD (j / 32) []).length = 32 := h _ (by simp [hi])
  have hr : j % 32 < (u8s (xs.getD (j / 32) [])).length := by rw [u8s_length, h32]; omega
  have hv := List.getElem?_eq_getElem hr
  have hc := idCells_get xs h (j / 32) hi (j % 32) _ hv
  rw [show j / 32 * 32 + j % 32 = j by omega] at hc
  rw [hc] at hj
  exact ⟨hi, by rw [hv]; exact hj⟩
theorem idRow_cells {w : World} {ad : Addr} {xs : List (List UInt8)} (h : IdRow w (some ad) xs) (h32 : ∀ s ∈ xs, s.length = 32) (j : Nat) (u : Value) (hj : (idCells xs)[j]? = some u) : w.cell? (ad.add j) = some u := by
  obtain ⟨hi, hc⟩ := idCells_at xs h32 j u hj
  obtain ⟨ad', e, hh⟩ := h.at_ _ hi
  obtain rfl := Option.some.inj e
  have := hh _ _ hc
  rw [addr_add_add, show j / 32 * 32 + j % 32 = j by omega] at this
  exact this
theorem cells_idRow {w : World} {ad : Addr} {xs : List (List UInt8)} (h32 : ∀ s ∈ xs, s.length = 32) (hl : xs.length ≤ 9223372036854775807) (h : ∀ j u, (idCells xs)[j]? = some u → w.cell? (ad.add j) = some u) : IdRow w (some ad) xs :=
  ⟨hl, fun _ => ⟨ad, rfl, fun i hi j v hv => by rw [addr_add_add]; exact h _ _ (idCells_get xs h32 i hi j v hv)⟩⟩
end Go.Qk
namespace Go.Proofs.YtabkaflccaklhaaGreat
open Go.RowKit
open Go.Qk hiding rotr b4
set_option maxHeartbeats 1000000
set_option maxRecDepth 100000
section
variable {ops : Array Oper} {Q : Exit → Act → World → Prop} {rest : List Oper} {o o2 : Oper} {a : Act} {w : World}
theorem run_app_none {B : Nat} {v : Value} {n : Nat} {xs : List Value} (hown : w.ownsRow B 42 32 v n xs) (c : Nat) (ty : TypeId) : (Builtin.append_ #[56, 56] ty #[v, .slice none 0 c]).run Tryz.prog w = .ok v w := by
  obtain ⟨i, i1, i2, i3, i4⟩ := info_parts infoId
  rcases hown.2 with ⟨rfl, rfl⟩ | ⟨g, cap, cur, rfl, _, _, hnc, _⟩
  · simp [Builtin.append_, run_underlying Tryz.underlying56, sizeOf, typeInfo, i1, Builtin.lenOf, Builtin.firstCells]
  · simp [Builtin.append_, run_underlying Tryz.underlying56, sizeOf, typeInfo, i1, Builtin.lenOf, Builtin.firstCells, hnc, storeCells]
/-- append(out, xs...). -/
theorem op_appRow {x y : Operand} {v : Value} {ys xs : List (List UInt8)} {A : Option Addr} {c : Nat} {B : Nat} {w0 : World} (hgd : o.guard = none) (ho : o.op = .call { callee := .builtin .append, args := #[x, y], argTypes := #[56, 56] })
    (hx : a.eval x = v) (hy : a.eval y = .slice A xs.length c) (hown : OwnIds 42 B w v ys) (hr : IdRow w A xs) (h32 : ∀ s ∈ xs, s.length = 32) (hb : Below B w0 w) (hB : B ≤ w.heap.size) (hlen : ys.length + xs.length ≤ 1000000000)
    (h : ∀ v' w', OwnIds 42 B w' v' (ys ++ xs) → Below B w0 w' → B ≤ w'.heap.size → wpList Tryz.prog ops Q rest (a.put o.dst v') w') : wpList Tryz.prog ops Q (o :: rest) a w := by
  cases A with
  | none =>
    have hxs : xs = [] := by
      by_cases e : xs = []
      · exact e
      · obtain ⟨_, e2, _⟩ := hr.2 e
        cases e2
    subst hxs
    refine wpList_val (v := v) (w' := w) hgd ?_ (h v w (by simpa using hown) hb hB)
    unfold execOp
    simp only [ho, resolve, invoke, builtin, Sem.run_bind, Sem.run_pure, Result.andThen_ok, List.map_toArray, List.map_cons, List.map_nil, hx, hy, List.length_nil, run_app_none hown.1]
  | some ad =>
    refine app_cells (P := Tryz.prog) (w0 := w0) (B := B) x y 56 42 (idV (zero8 32)) 32 32 v ys.length (idCells ys) (idCells xs) ad xs.length c hgd ho Tryz.underlying56 infoId (by simp [idV_cells, u8s_length, zero8]) (by omega) hx hy (idCells_length xs h32) (idRow_cells hr h32) (idCells_one xs) hown.1 hb hB (by omega) (by omega) ?_
    intro v' w' h1 h2 h3
    refine h v' w' ⟨?_, fun s hs => ?_⟩ h2 h3
    · rw [List.length_append, idCells_append]
      exact h1
    · rcases List.mem_append.1 hs with hs | hs
      · exact hown.2 s hs
      · exact h32 s hs
/-- []api.Id{a, b}. -/
theorem op_rowIds2 {l1 l2 : List UInt8} {y1 y2 : Operand} (hgd : o.guard = none) (ho : o.op = .buildSlice 56 2 #[(0, y1), (1, y2)]) (h1 : a.eval y1 = idV l1) (h2 : a.eval y2 = idV l2) (hl1 : l1.length = 32) (hl2 : l2.length = 32)
    (h : ∀ ad W, Grow w W → IdRow W (some ad) [l1, l2] → wpList Tryz.prog ops Q rest (a.put o.dst (.slice (some ad) 2 2)) W) : wpList Tryz.prog ops Q (o :: rest) a w := by
  have h32 : ∀ s ∈ [l1, l2], s.length = 32 := fun s hs => by simp at hs; rcases hs with hs | hs <;> rw [hs] <;> assumption
  have hr := run_buildIds w [l1, l2] 2 rfl (by omega) (by omega) h32
  have hp : #[(0, y1), (1, y2)].map (fun (i, y) => (i, a.eval y)) = ((([l1, l2].map idV).zipIdx 0).map Prod.swap).toArray := by simp [h1, h2]
  refine wpList_val (v := .slice (some ⟨w.heap.size, 0, none⟩) 2 2) (w' := w.alloc (.cells (idCells [l1, l2]).toArray 42)) hgd ?_ (h _ _ (grow_alloc _ _) (cells_idRow h32 (by simp) (fun j u hj => cells_new w _ _ j u hj)))
  unfold execOp
  simp only [ho, hp, Sem.run_bind, Sem.run_pure, Result.andThen_ok, hr]
theorem opG_loadAt {x : Operand} {ad : Addr} {l : List UInt8} (ho : o.op = .load 42 x) (hw : Region.wanted o (yielded ops a.tmps) = true) (hx : a.eval x = .pointer (some ad)) (hc : ∀ j v, (u8s l)[j]? = some v → w.cell? (ad.add j) = some v) (hl : l.length = 32)
    (h : wpList Tryz.prog ops Q rest (a.put o.dst (idV l)) w) : wpList Tryz.prog ops Q (o :: rest) a w := by
  refine wpList_want (v := idV l) (w' := w) hw ?_ h
  unfold execOp
  simp only [ho, hx, Sem.run_bind, Sem.run_pure, Result.andThen_ok, run_loadIdAt hc hl]
def id1 (b : UInt8) : List UInt8 := b :: zero8 31
theorem run_build1 (w : World) : (Instr.build 42 #[(0, .int .u8 1)]).run Tryz.prog w = .ok (idV (id1 1)) w := by kernel_rfl
theorem run_build2 (w : World) : (Instr.build 42 #[(0, .int .u8 2)]).run Tryz.prog w = .ok (idV (id1 2)) w := by kernel_rfl
theorem run_build3 (w : World) : (Instr.build 42 #[(0, .int .u8 3)]).run Tryz.prog w = .ok (idV (id1 3)) w := by kernel_rfl
theorem opG_build1 (ho : o.op = .build 42 #[(0, .const (.int .u8 1))]) (hw : Region.wanted o (yielded ops a.tmps) = true) (h : wpList Tryz.prog ops Q rest (a.put o.dst (idV (id1 1))) w) : wpList Tryz.prog ops Q (o :: rest) a w := by
  refine wpList_want (v := idV (id1 1)) (w' := w) hw ?_ h
  have e : a.eval (.const (.int .u8 1)) = .int .u8 1 := rfl
  unfold execOp
  simp only [ho, e, List.map_toArray, List.map_cons, List.map_nil, Sem.run_bind, Sem.run_pure, Result.andThen_ok, run_build1]
theorem opG_build2 (ho : o.op = .build 42 #[(0, .const (.int .u8 2))]) (hw : Region.wanted o (yielded ops a.tmps) = true) (h : wpList Tryz.prog ops Q rest (a.put o.dst (idV (id1 2))) w) : wpList Tryz.prog ops Q (o :: rest) a w := by
  refine wpList_want (v := idV (id1 2)) (w' := w) hw ?_ h
  have e : a.eval (.const (.int .u8 2)) = .int .u8 2 := rfl
  unfold execOp
  simp only [ho, e, List.map_toArray, List.map_cons, List.map_nil, Sem.run_bind, Sem.run_pure, Result.andThen_ok, run_build2]
theorem opG_build3 (ho : o.op = .build 42 #[(0, .const (.int .u8 3))]) (hw : Region.wanted o (yielded ops a.tmps) = true) (h : wpList Tryz.prog ops Q rest (a.put o.dst (idV (id1 3))) w) : wpList Tryz.prog ops Q (o :: rest) a w := by
  refine wpList_want (v := idV (id1 3)) (w' := w) hw ?_ h
  have e : a.eval (.const (.int .u8 3)) = .int .u8 3 := rfl
  unfold execOp
  simp only [ho, e, List.map_toArray, List.map_cons, List.map_nil, Sem.run_bind, Sem.run_pure, Result.andThen_ok, run_build3]
end
theorem union_ex : unionL [id1 1, id1 3] [id1 2, id1 3] = [id1 1, id1 2, id1 3] := by decide +kernel
theorem id1_length (b : UInt8) : (id1 b).length = 32 := rfl
end Go.Proofs.YtabkaflccaklhaaGreat
end
