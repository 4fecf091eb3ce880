/- Joined: QSet0 QPick QSetM QSetR QSetP QSetE QSetK. -/
import Derived.Test.YtffgifegaagndaaQKit1
import Derived.Test.YtffgifegaagndaaQIdx1
import Derived.Test.YtffgifegaagndaaQBase1
set_option linter.unusedSimpArgs false
set_option linter.unusedVariables false
section
/- Rows of ids: their beginnings and ends; two functions that call with two truths. -/
namespace Go.Qk
open Go.RowKit
theorem addr_add_add (ad : Addr) (i j : Nat) : (ad.add i).add j = ad.add (i + j) := by
  unfold Addr.add
  by_cases hi : i = 0
  · subst hi; simp
  · by_cases hj : j = 0
    · subst hj; simp
    · simp [hi, hj, Nat.add_assoc]
theorem idRow_drop {w : World} {ad : Addr} {xs : List (List UInt8)} (h : IdRow w (some ad) xs) (k : Nat) : IdRow w (some (ad.add (k * 32))) (xs.drop k) := by
  refine ⟨by rw [List.length_drop]; have := h.1; omega, fun _ => ⟨_, rfl, fun i hi j v hv => ?_⟩⟩
  rw [List.length_drop] at hi
  have hk : k + i < xs.length := by omega
  obtain ⟨ad', e, hc⟩ := h.2 (by intro e; subst e; simp at hk)
  obtain rfl := Option.some.inj e
  have hg : (xs.drop k).getD i [] = xs.getD (k + i) [] := by simp [hk]
  rw [hg] at hv
  have := hc (k + i) hk j v hv
  rw [addr_add_add, addr_add_add] at *
  rw [show k * 32 + (i * 32 + j) = (k + i) * 32 + j by omega]
  exact this
theorem idRow_take {w : World} {A : Option Addr} {xs : List (List UInt8)} (h : IdRow w A xs) (k : Nat) : IdRow w A (xs.take k) := by
  refine ⟨by rw [List.length_take]; have := h.1; omega, fun hne => ?_⟩
  have hx : xs ≠ [] := by intro e; subst e; simp at hne
  obtain ⟨ad, e, hc⟩ := h.2 hx
  refine ⟨ad, e, fun i hi j v hv => ?_⟩
  rw [List.length_take] at hi
  have hg : (xs.take k).getD i [] = xs.getD i [] := by simp [List.getElem?_take, show i < k by omega]
  rw [hg] at hv
  exact hc i (by omega) j v hv
theorem idRow_nil (w : World) (A : Option Addr) : IdRow w A [] := ⟨by simp, fun h => absurd rfl h⟩
/-- What is behind the first. -/
def tailA (ad : Addr) (c : Nat) : Addr := if c = 1 then ad else ad.add 32
theorem idRow_tail {w : World} {ad : Addr} {x : List UInt8} {xs : List (List UInt8)} {c : Nat} (h : IdRow w (some ad) (x :: xs)) (hc : xs.length + 1 ≤ c) : IdRow w (some (tailA ad c)) xs := by
  unfold tailA
  split
  · obtain rfl : xs = [] := List.eq_nil_of_length_eq_zero (by omega)
    exact idRow_nil _ _
  · exact idRow_drop h 1
theorem lexLess_asymm : ∀ (l m : List UInt8), lexLess l m = true → lexLess m l = false
  | [], _, h => by simp [lexLess] at h
  | _ :: _, [], h => by simp [lexLess] at h
  | a :: l, b :: m, h => by
    by_cases e : a = b
    · subst e
      simp only [lexLess, if_true] at h ⊢
      exact lexLess_asymm l m h
    · simp only [lexLess, if_neg e, if_neg (Ne.symm e), decide_eq_true_eq, decide_eq_false_iff_not, UInt8.lt_iff_toNat_lt] at h ⊢
      omega
end Go.Qk
namespace Go.Proofs.Ytffgifegaagndaa
open Go.RowKit
open Go.Qk hiding rotr b4
set_option maxHeartbeats 1000000
set_option maxRecDepth 100000
def RetRow (B : Nat) (w : World) (xs : List (List UInt8)) (e : Ending) (w' : World) : Prop := ∃ v, e = .returned v ∧ OwnIds 23 B w' v xs ∧ Below w.heap.size w w'
theorem own_store {B g : Nat} {w w' : World} {v : Value} {xs : List (List UInt8)} (h : OwnIds 23 B w v xs) (hg : w.grownBy w' (some g)) (hne : v.ownBlock ≠ some g) : OwnIds 23 B w' v xs := ⟨h.1.kept hg (.inr hne), h.2⟩
theorem own_ne {B g : Nat} {w : World} {v : Value} {xs : List (List UInt8)} (h : OwnIds 23 B w v xs) (hg : w.heap.size ≤ g) : v.ownBlock ≠ some g := fun e => by have := (h.1.lt g e).2; omega
theorem run_tail {ad : Addr} {n c : Nat} (hn : 1 ≤ n) (w : World) : (Instr.sliceAt 24 (.slice (some ad) n c) (some (.int .i64 1)) none none).run Try.prog w = .ok (.slice (some (tailA ad c)) (n - 1) (c - 1)) w := by
  have h1 : (1 : Int) ≤ (n : Int) := by omega
  go_simp
  unfold tailA Addr.add
  split <;> simp_all
theorem unionCnt (x y : Bool) (w : World) : Calls Try.prog 146 (#[.bool x, .bool y] ++ #[]) w fun e w' => e = .returned (.bool true) ∧ Below w.heap.size w w' := by
  rw [Array.append_empty]
  go_enter Try.func146, Try.ntmps146
  have HB := hid (grow_refl w)
  go_wp2
  go_ret
  exact ⟨rfl, HB.out⟩
theorem ent_union : ∀ args w, (callFunc 146 args).run Try.prog w = .ok (.enter 146 args) w := fun _ _ => by kernel_rfl
end Go.Proofs.Ytffgifegaagndaa
end
section
/- A region of open order: operations that hang on no world come first, in a row that is given; the others come one behind the other. -/
namespace Go.Qk
open Go.RowKit
section
variable {P : Program} {ops : Array Oper} {md : Region.Mode} {Q : Exit → Act → World → Prop}
def apartB (md : Region.Mode) (ops : Array Oper) (p : Nat) (listed : Array Bool) : Bool :=
  (List.range ops.size).all fun j => j == p || listed.getD j true || (match ops[p]?, ops[j]? with
    | some op, some oj => (oj.after.any fun e => Region.binds md e && e.on == p) || op.apart ops oj
    | _, _ => false)
def okSeq (md : Region.Mode) (ops : Array Oper) : List Nat → Array Bool → Bool
  | k :: ks, listed => decide (Region.ready md ops listed = [k]) && okSeq md ops ks (listed.setIfInBounds k true)
  | [], listed => (Region.ready md ops listed).isEmpty
def okPick (md : Region.Mode) (ops : Array Oper) (ks : List Nat) : List Nat → Array Bool → Bool
  | p :: ps, listed => (Region.ready md ops listed).contains p && apartB md ops p listed && okPick md ops ks ps (listed.setIfInBounds p true)
  | [], listed => okSeq md ops ks listed
/-- What is to be shown. -/
def Pick (P : Program) (ops : Array Oper) (Q : Exit → Act → World → Prop) (ks : List Nat) : List Nat → Act → World → Prop
  | p :: ps, a, w => ∃ o v, ops[p]? = some o ∧ Yields P ops o v a ∧ (∀ c a w, Q (.panic c) (a.put o.dst v) w → Q (.panic c) a w) ∧ Pick P ops Q ks ps (a.put o.dst v) w
  | [], a, w => wpList P ops Q (ks.filterMap (ops[·]?)) a w
theorem pick_seq : ∀ (ks : List Nat) (listed : Array Bool) (a : Act) (w : World), listed.size = ops.size → okSeq md ops ks listed = true → wpList P ops Q (ks.filterMap (ops[·]?)) a w → wpAny P md ops Q ks.length listed a w
  | [], listed, a, w, _, hok, h => ⟨by simpa [okSeq] using hok, h⟩
  | k :: ks, listed, a, w, hsz, hok, h => by
    simp only [okSeq, Bool.and_eq_true, decide_eq_true_eq] at hok
    have hk : k ∈ Region.ready md ops listed := by rw [hok.1]; exact List.mem_cons_self
    obtain ⟨_, o, ho, _⟩ := mem_ready.1 hk
    have hf : (k :: ks).filterMap (ops[·]?) = o :: ks.filterMap (ops[·]?) := by rw [List.filterMap_cons, ho]
    rw [hf] at h
    refine ⟨fun h1 => (by rw [hok.1] at h1; cases h1), fun i hi => ?_⟩
    rw [hok.1] at hi
    obtain rfl : i = k := by simpa using hi
    have hw : wpOp P ops Q i (wpList P ops Q (ks.filterMap (ops[·]?))) a w := by unfold wpOp; simp only [ho]; exact h
    exact wpOp_mono (fun a' w' h' => pick_seq ks _ a' w' (by simpa using hsz) hok.2 h') hw
theorem pick_any (hns : Region.noSelect ops = true) : ∀ (ps ks : List Nat) (listed : Array Bool) (a : Act) (w : World), listed.size = ops.size → okPick md ops ks ps listed = true → Pick P ops Q ks ps a w → wpAny P md ops Q (ps.length + ks.length) listed a w
  | [], ks, listed, a, w, hsz, hok, h => by
    have := pick_seq (P := P) (Q := Q) ks listed a w hsz hok h
    simpa using this
  | p :: ps, ks, listed, a, w, hsz, hok, h => by
    obtain ⟨o, v, ho, hy, hq, hr⟩ := h
    simp only [okPick, Bool.and_eq_true] at hok
    obtain ⟨⟨h1, h2⟩, h3⟩ := hok
    have ih := pick_any hns ps ks (listed.setIfInBounds p true) (a.put o.dst v) w (by simpa using hsz) h3 hr
    have e : (p :: ps).length + ks.length = (ps.length + ks.length) + 1 := by simp; omega
    rw [e]
    refine wpAny_first (md := md) ho (fun j o cs b hj => Region.noSelect_spec hns j o cs b hj) hq _ listed a w ?_ (by simpa using h1) hy ih
    intro j oj hj hne hl hnw
    have hjs : j < ops.size := (Array.getElem?_eq_some_iff.1 hj).1
    have h4 := List.all_eq_true.1 h2 j (List.mem_range.2 hjs)
    rw [ho, hj] at h4
    simp only [Bool.or_eq_true, beq_iff_eq, hne, hl, Bool.false_eq_true, false_or, or_false] at h4
    rcases h4 with h4 | h4
    · obtain ⟨i, hi, hb⟩ := Array.any_eq_true.1 h4
      simp only [Bool.and_eq_true, beq_iff_eq] at hb
      exact absurd hb.2 (hnw _ (Array.getElem_mem hi) hb.1)
    · exact h4
theorem wp_region_pick {id : Nat} {a : Act} {w : World} {l : List Oper} (ps ks : List Nat) (hm : P.follows .mixedOrders = true) (hns : Region.noSelect l.toArray = true) (hlen : ps.length + ks.length = l.toArray.size) (hok : okPick .any l.toArray ks ps (Array.replicate l.toArray.size false) = true)
    (h : Pick P l.toArray Q ks ps a { w with drawn := w.drawn + 1 }) : (Code.region id l.toArray true).wp P Q a w := by
  refine wp_region_any hm ?_
  have := pick_any (P := P) (md := .any) (Q := Q) hns ps ks (Array.replicate l.toArray.size false) a { w with drawn := w.drawn + 1 } (by simp) hok h
  rw [hlen] at this
  exact this
theorem pick_val {ps ks : List Nat} {p : Nat} {a : Act} {w : World} {o : Oper} {v : Value} (ho : ops[p]? = some o) (hwant : Region.wanted o (yielded ops a.tmps) = true) (hrun : ∀ w, (execOp a.eval o).run P w = .ok (.value v) w)
    (hq : ∀ c a w, Q (.panic c) (a.put o.dst v) w → Q (.panic c) a w) (h : Pick P ops Q ks ps (a.put o.dst v) w) : Pick P ops Q ks (p :: ps) a w := ⟨o, v, ho, .inl ⟨hwant, hrun⟩, hq, h⟩
theorem pick_nil {ks : List Nat} {a : Act} {w : World} (h : wpList P ops Q (ks.filterMap (ops[·]?)) a w) : Pick P ops Q ks [] a w := h
theorem grow_drawn (w : World) : Grow w { w with drawn := w.drawn + 1 } := Below.drew (Below.refl _ _)
end
end Go.Qk
end
section
/- id.merge: contract. -/
namespace Go.Proofs.Ytffgifegaagndaa
open Go.RowKit
open Go.Qk hiding rotr b4
set_option maxHeartbeats 2000000
set_option maxRecDepth 100000
abbrev IdL := List UInt8
/-- Two rows, gone through; what counts is kept. -/
def mergeN (cnt : Bool → Bool → Bool) : Nat → List IdL → List IdL → List IdL
  | 0, _, _ => []
  | _ + 1, [], [] => []
  | n + 1, [], y :: b => (if cnt false true then [y] else []) ++ mergeN cnt n [] b
  | n + 1, x :: a, [] => (if cnt true false then [x] else []) ++ mergeN cnt n a []
  | n + 1, x :: a, y :: b =>
    if lexLess y x then (if cnt false true then [y] else []) ++ mergeN cnt n (x :: a) b
    else if lexLess x y then (if cnt true false then [x] else []) ++ mergeN cnt n a (y :: b)
    else (if cnt true true then [x] else []) ++ mergeN cnt n a b
theorem mergeN_nil (cnt : Bool → Bool → Bool) (n : Nat) : mergeN cnt n [] [] = [] := by cases n <;> rfl
theorem idMerge (cnt : Bool → Bool → Bool) (f : FuncId) (hent : ∀ args w, (callFunc f args).run Try.prog w = .ok (.enter f args) w) (hf : ∀ x y w, Calls Try.prog f (#[.bool x, .bool y] ++ #[]) w fun e w' => e = .returned (.bool (cnt x y)) ∧ Below w.heap.size w w')
    (A B : Option Addr) (n1 n2 ca cb : Nat) (xs ys : List IdL) (hn1 : xs.length = n1) (hn2 : ys.length = n2) (w : World) (hx : IdRow w A xs) (hy : IdRow w B ys) (h32 : ∀ s ∈ xs, s.length = 32) (g32 : ∀ s ∈ ys, s.length = 32) (hca : xs.length ≤ ca) (hcb : ys.length ≤ cb) (hmax : xs.length + ys.length ≤ 1000000) :
    Calls Try.prog 145 #[.slice A n1 ca, .slice B n2 cb, .func (.func f) #[] #[]] w (RetRow w.heap.size w (mergeN cnt (xs.length + ys.length) xs ys)) := by
  subst hn1 hn2
  have HX := hid hx
  have HY := hid hy
  have HE := hid hent
  have HF := hid hf
  have H1 := hid h32
  have H2 := hid g32
  have HC1 := hid hca
  have HC2 := hid hcb
  have HMX := hid (show ([] : List IdL).length + (xs.length + ys.length) ≤ 1000000 by simpa using hmax)
  clear hx hy hent hf h32 g32 hca hcb hmax
  go_enter Try.func145, Try.ntmps145
  have HB := hid (grow_refl w)
  go_wp2_with fail
  have HO := hid (show OwnIds 23 w.heap.size w (.slice none 0 0) [] from ⟨World.ownsRow_nil _ _ _ _, fun _ h => by cases h⟩)
  go_loopg [0, 1, 7] (xs.length + ys.length + 1) (fun q va vb vo wr => ∃ (n : Nat) (a b : List IdL) (A' B' : Option Addr) (ca' cb' : Nat) (o : List IdL), q = n + 1 ∧ Hid (a.length + b.length ≤ n) ∧ va = .slice A' a.length ca' ∧ vb = .slice B' b.length cb' ∧
    Hid (o ++ mergeN cnt n a b = mergeN cnt (xs.length + ys.length) xs ys) ∧ Hid (IdRow w A' a) ∧ Hid (IdRow w B' b) ∧ Hid (∀ s ∈ a, s.length = 32) ∧ Hid (∀ s ∈ b, s.length = 32) ∧ Hid (a.length ≤ ca') ∧ Hid (b.length ≤ cb') ∧ Hid (o.length + (a.length + b.length) ≤ 1000000) ∧ Hid (OwnIds 23 w.heap.size wr vo o) ∧ Hid (Grow w wr))
  case atStart => exact ⟨xs.length + ys.length, xs, ys, A, B, ca, cb, [], rfl, hid (Nat.le_refl _), rfl, rfl, hid rfl, HX, HY, H1, H2, HC1, HC2, HMX, HO, HB⟩
  case round =>
    clear HX HY H1 H2 HC1 HC2 HMX HO HB
    obtain ⟨n, a, b, A', B', ca', cb', o, hq, HN, rfl, rfl, HM, HX, HY, H1, H2, HC1, HC2, HMX, HO, HG⟩ := hrel
    cases a with
    | nil =>
      cases b with
      | nil =>
        go_wp2_with fail
        go_ret
        have h := HM.out
        rw [mergeN_nil, List.append_nil] at h
        rw [← h]
        exact ⟨_, rfl, HO.out, HG.out⟩
      | cons y b =>
        obtain ⟨m, rfl⟩ : ∃ m, n = m + 1 := ⟨n - 1, by have := HN.out; simp at this; omega⟩
        try simp only [List.length_cons]
        obtain ⟨bd, rfl, hcb⟩ := HY.out.at_ 0 (by simp)
        have HCy := hid hcb
        have Hy32 := hid (show y.length = 32 from H2.out _ List.mem_cons_self)
        have HYt := hid (idRow_tail HY.out (by have := HC2.out; simpa using this))
        have H2t := hid (show ∀ s ∈ b, s.length = 32 from fun s hs => H2.out s (List.mem_cons_of_mem _ hs))
        have HC2t := hid (show b.length ≤ cb' - 1 by have := HC2.out; simp at this; omega)
        have hsb := run_tail (ad := bd) (n := b.length + 1) (c := cb') (by omega)
        simp only [Nat.add_sub_cancel] at hsb
        clear hcb
        have tb1 : (0 : Int) < (b.length : Int) + 1 := by omega
        have tb2 : ((b.length : Int) + 1 == 0) = false := by simp; omega
        have tb3 : decide ((0 : Int) < (b.length : Int) + 1) = true := decide_eq_true (by omega)
        go_wp2_with fail
        (refine' wp_region_head 19 0 [_, _, _, _, _, _, _, _, _, _, _, _, _, _, _, _, _, _, _] rfl (by kernel_rfl) (by kernel_rfl) ?hreg1; case' hreg1 => simp only [List.take_succ_cons, List.take_zero, List.zip_cons_cons, List.zip_nil_right, List.drop_succ_cons, List.drop_zero, List.drop_nil])
        (refine' head_val ?dw2 ?de2 ?dr2 ?dh2; (case' dw2 => rfl); (case' de2 => (first | exact fun _ _ _ => trivial | (intro t ht w; cases ht; simp [upE]))); (case' dr2 => (intro w' hw' _; go_simp; with_reducible rfl)); (case' dh2 => (try simp only [Act.put, List.setIfInBounds_toArray, List.set_cons_zero, List.set_cons_succ]))); (refine' head_val ?dw3 ?de3 ?dr3 ?dh3; (case' dw3 => rfl); (case' de3 => (first | exact fun _ _ _ => trivial | (intro t ht w; cases ht; simp [upE]))); (case' dr3 => (intro w' hw' _; go_simp; with_reducible rfl)); (case' dh3 => (try simp only [Act.put, List.setIfInBounds_toArray, List.set_cons_zero, List.set_cons_succ]))); (refine' head_val ?dw4 ?de4 ?dr4 ?dh4; (case' dw4 => rfl); (case' de4 => (first | exact fun _ _ _ => trivial | (intro t ht w; cases ht; simp [upE]))); (case' dr4 => (intro w' hw' _; go_simp; with_reducible rfl)); (case' dh4 => (try simp only [Act.put, List.setIfInBounds_toArray, List.set_cons_zero, List.set_cons_succ]))); (refine' head_val ?dw5 ?de5 ?dr5 ?dh5; (case' dw5 => rfl); (case' de5 => (first | exact fun _ _ _ => trivial | (intro t ht w; cases ht; simp [upE]))); (case' dr5 => (intro w' hw' _; go_simp; with_reducible rfl)); (case' dh5 => (try simp only [Act.put, List.setIfInBounds_toArray, List.set_cons_zero, List.set_cons_succ])))
        (refine' head_skip (V := fun _ _ => True) ?sw6 ?se6 ?sh6; (case' sw6 => rfl); (case' se6 => (first | exact fun _ _ _ => trivial | (intro t ht w; cases ht; simp [upE]))); (case' sh6 => (try simp only [Act.put, List.setIfInBounds_toArray, List.set_cons_zero, List.set_cons_succ]))); (refine' head_skip (V := fun _ _ => True) ?sw7 ?se7 ?sh7; (case' sw7 => rfl); (case' se7 => (first | exact fun _ _ _ => trivial | (intro t ht w; cases ht; simp [upE]))); (case' sh7 => (try simp only [Act.put, List.setIfInBounds_toArray, List.set_cons_zero, List.set_cons_succ]))); (refine' head_skip (V := fun _ _ => True) ?sw8 ?se8 ?sh8; (case' sw8 => rfl); (case' se8 => (first | exact fun _ _ _ => trivial | (intro t ht w; cases ht; simp [upE]))); (case' sh8 => (try simp only [Act.put, List.setIfInBounds_toArray, List.set_cons_zero, List.set_cons_succ]))); (refine' head_skip (V := fun _ _ => True) ?sw9 ?se9 ?sh9; (case' sw9 => rfl); (case' se9 => (first | exact fun _ _ _ => trivial | (intro t ht w; cases ht; simp [upE]))); (case' sh9 => (try simp only [Act.put, List.setIfInBounds_toArray, List.set_cons_zero, List.set_cons_succ]))); (refine' head_skip (V := fun _ _ => True) ?sw10 ?se10 ?sh10; (case' sw10 => rfl); (case' se10 => (first | exact fun _ _ _ => trivial | (intro t ht w; cases ht; simp [upE]))); (case' sh10 => (try simp only [Act.put, List.setIfInBounds_toArray, List.set_cons_zero, List.set_cons_succ]))); (refine' head_skip (V := fun _ _ => True) ?sw11 ?se11 ?sh11; (case' sw11 => rfl); (case' se11 => (first | exact fun _ _ _ => trivial | (intro t ht w; cases ht; simp [upE]))); (case' sh11 => (try simp only [Act.put, List.setIfInBounds_toArray, List.set_cons_zero, List.set_cons_succ]))); (refine' head_skip (V := fun _ _ => True) ?sw12 ?se12 ?sh12; (case' sw12 => rfl); (case' se12 => (first | exact fun _ _ _ => trivial | (intro t ht w; cases ht; simp [upE]))); (case' sh12 => (try simp only [Act.put, List.setIfInBounds_toArray, List.set_cons_zero, List.set_cons_succ]))); (refine' head_skip (V := fun _ _ => True) ?sw13 ?se13 ?sh13; (case' sw13 => rfl); (case' se13 => (first | exact fun _ _ _ => trivial | (intro t ht w; cases ht; simp [upE]))); (case' sh13 => (try simp only [Act.put, List.setIfInBounds_toArray, List.set_cons_zero, List.set_cons_succ]))); (refine' head_skip (V := fun _ _ => True) ?sw14 ?se14 ?sh14; (case' sw14 => rfl); (case' se14 => (first | exact fun _ _ _ => trivial | (intro t ht w; cases ht; simp [upE]))); (case' sh14 => (try simp only [Act.put, List.setIfInBounds_toArray, List.set_cons_zero, List.set_cons_succ]))); (refine' head_skip (V := fun _ _ => True) ?sw15 ?se15 ?sh15; (case' sw15 => rfl); (case' se15 => (first | exact fun _ _ _ => trivial | (intro t ht w; cases ht; simp [upE]))); (case' sh15 => (try simp only [Act.put, List.setIfInBounds_toArray, List.set_cons_zero, List.set_cons_succ]))); (refine' head_skip (V := fun _ _ => True) ?sw16 ?se16 ?sh16; (case' sw16 => rfl); (case' se16 => (first | exact fun _ _ _ => trivial | (intro t ht w; cases ht; simp [upE]))); (case' sh16 => (try simp only [Act.put, List.setIfInBounds_toArray, List.set_cons_zero, List.set_cons_succ]))); (refine' head_skip (V := fun _ _ => True) ?sw17 ?se17 ?sh17; (case' sw17 => rfl); (case' se17 => (first | exact fun _ _ _ => trivial | (intro t ht w; cases ht; simp [upE]))); (case' sh17 => (try simp only [Act.put, List.setIfInBounds_toArray, List.set_cons_zero, List.set_cons_succ]))); (refine' head_skip (V := fun _ _ => True) ?sw18 ?se18 ?sh18; (case' sw18 => rfl); (case' se18 => (first | exact fun _ _ _ => trivial | (intro t ht w; cases ht; simp [upE]))); (case' sh18 => (try simp only [Act.put, List.setIfInBounds_toArray, List.set_cons_zero, List.set_cons_succ])))
        (refine' head_val ?dw19 ?de19 ?dr19 ?dh19; (case' dw19 => rfl); (case' de19 => (first | exact fun _ _ _ => trivial | (intro t ht w; cases ht; simp [upE]))); (case' dr19 => (intro w' hw' _; go_simp; with_reducible rfl)); (case' dh19 => (try simp only [Act.put, List.setIfInBounds_toArray, List.set_cons_zero, List.set_cons_succ]))); (refine' head_val ?dw20 ?de20 ?dr20 ?dh20; (case' dw20 => rfl); (case' de20 => (first | exact fun _ _ _ => trivial | (intro t ht w; cases ht; simp [upE]))); (case' dr20 => (intro w' hw' _; go_simp; with_reducible rfl)); (case' dh20 => (try simp only [Act.put, List.setIfInBounds_toArray, List.set_cons_zero, List.set_cons_succ])))
        refine head_nil ?_
        intro w3 hb _
        refine wpList_nil ?_
        replace HO := hid (HO.out.grow hb)
        replace HG := hid (Grow.trans HG.out hb)
        clear hb
        go_wp2_with fail
        (refine' wp_region_head 19 0 [_, _, _, _, _, _, _, _, _, _, _, _, _, _, _, _, _, _, _] rfl (by kernel_rfl) (by kernel_rfl) ?hreg21; case' hreg21 => simp only [List.take_succ_cons, List.take_zero, List.zip_cons_cons, List.zip_nil_right, List.drop_succ_cons, List.drop_zero, List.drop_nil])
        (refine' head_val ?dw22 ?de22 ?dr22 ?dh22; (case' dw22 => rfl); (case' de22 => (first | exact fun _ _ _ => trivial | (intro t ht w; cases ht; simp [upE]))); (case' dr22 => (intro w' hw' _; go_simp; with_reducible rfl)); (case' dh22 => (try simp only [Act.put, List.setIfInBounds_toArray, List.set_cons_zero, List.set_cons_succ]))); (refine' head_val ?dw23 ?de23 ?dr23 ?dh23; (case' dw23 => rfl); (case' de23 => (first | exact fun _ _ _ => trivial | (intro t ht w; cases ht; simp [upE]))); (case' dr23 => (intro w' hw' _; go_simp; with_reducible rfl)); (case' dh23 => (try simp only [Act.put, List.setIfInBounds_toArray, List.set_cons_zero, List.set_cons_succ]))); (refine' head_val ?dw24 ?de24 ?dr24 ?dh24; (case' dw24 => rfl); (case' de24 => (first | exact fun _ _ _ => trivial | (intro t ht w; cases ht; simp [upE]))); (case' dr24 => (intro w' hw' _; go_simp; with_reducible rfl)); (case' dh24 => (try simp only [Act.put, List.setIfInBounds_toArray, List.set_cons_zero, List.set_cons_succ]))); (refine' head_val ?dw25 ?de25 ?dr25 ?dh25; (case' dw25 => rfl); (case' de25 => (first | exact fun _ _ _ => trivial | (intro t ht w; cases ht; simp [upE]))); (case' dr25 => (intro w' hw' _; go_simp; with_reducible rfl)); (case' dh25 => (try simp only [Act.put, List.setIfInBounds_toArray, List.set_cons_zero, List.set_cons_succ]))); (refine' head_val ?dw26 ?de26 ?dr26 ?dh26; (case' dw26 => rfl); (case' de26 => (first | exact fun _ _ _ => trivial | (intro t ht w; cases ht; simp [upE]))); (case' dr26 => (intro w' hw' _; go_simp; with_reducible rfl)); (case' dh26 => (try simp only [Act.put, List.setIfInBounds_toArray, List.set_cons_zero, List.set_cons_succ]))); (refine' head_val ?dw27 ?de27 ?dr27 ?dh27; (case' dw27 => rfl); (case' de27 => (first | exact fun _ _ _ => trivial | (intro t ht w; cases ht; simp [upE]))); (case' dr27 => (intro w' hw' _; go_simp; with_reducible rfl)); (case' dh27 => (try simp only [Act.put, List.setIfInBounds_toArray, List.set_cons_zero, List.set_cons_succ]))); (refine' head_val ?dw28 ?de28 ?dr28 ?dh28; (case' dw28 => rfl); (case' de28 => (first | exact fun _ _ _ => trivial | (intro t ht w; cases ht; simp [upE]))); (case' dr28 => (intro w' hw' _; go_simp; with_reducible rfl)); (case' dh28 => (try simp only [Act.put, List.setIfInBounds_toArray, List.set_cons_zero, List.set_cons_succ]))); (refine' head_val ?dw29 ?de29 ?dr29 ?dh29; (case' dw29 => rfl); (case' de29 => (first | exact fun _ _ _ => trivial | (intro t ht w; cases ht; simp [upE]))); (case' dr29 => (intro w' hw' _; go_simp; with_reducible rfl)); (case' dh29 => (try simp only [Act.put, List.setIfInBounds_toArray, List.set_cons_zero, List.set_cons_succ])))
        (refine' head_skip (V := fun _ _ => True) ?sw30 ?se30 ?sh30; (case' sw30 => rfl); (case' se30 => (first | exact fun _ _ _ => trivial | (intro t ht w; cases ht; simp [upE]))); (case' sh30 => (try simp only [Act.put, List.setIfInBounds_toArray, List.set_cons_zero, List.set_cons_succ]))); (refine' head_skip (V := fun _ _ => True) ?sw31 ?se31 ?sh31; (case' sw31 => rfl); (case' se31 => (first | exact fun _ _ _ => trivial | (intro t ht w; cases ht; simp [upE]))); (case' sh31 => (try simp only [Act.put, List.setIfInBounds_toArray, List.set_cons_zero, List.set_cons_succ]))); (refine' head_skip (V := fun _ _ => True) ?sw32 ?se32 ?sh32; (case' sw32 => rfl); (case' se32 => (first | exact fun _ _ _ => trivial | (intro t ht w; cases ht; simp [upE]))); (case' sh32 => (try simp only [Act.put, List.setIfInBounds_toArray, List.set_cons_zero, List.set_cons_succ]))); (refine' head_skip (V := fun _ _ => True) ?sw33 ?se33 ?sh33; (case' sw33 => rfl); (case' se33 => (first | exact fun _ _ _ => trivial | (intro t ht w; cases ht; simp [upE]))); (case' sh33 => (try simp only [Act.put, List.setIfInBounds_toArray, List.set_cons_zero, List.set_cons_succ]))); (refine' head_skip (V := fun _ _ => True) ?sw34 ?se34 ?sh34; (case' sw34 => rfl); (case' se34 => (first | exact fun _ _ _ => trivial | (intro t ht w; cases ht; simp [upE]))); (case' sh34 => (try simp only [Act.put, List.setIfInBounds_toArray, List.set_cons_zero, List.set_cons_succ]))); (refine' head_skip (V := fun _ _ => True) ?sw35 ?se35 ?sh35; (case' sw35 => rfl); (case' se35 => (first | exact fun _ _ _ => trivial | (intro t ht w; cases ht; simp [upE]))); (case' sh35 => (try simp only [Act.put, List.setIfInBounds_toArray, List.set_cons_zero, List.set_cons_succ]))); (refine' head_skip (V := fun _ _ => True) ?sw36 ?se36 ?sh36; (case' sw36 => rfl); (case' se36 => (first | exact fun _ _ _ => trivial | (intro t ht w; cases ht; simp [upE]))); (case' sh36 => (try simp only [Act.put, List.setIfInBounds_toArray, List.set_cons_zero, List.set_cons_succ]))); (refine' head_skip (V := fun _ _ => True) ?sw37 ?se37 ?sh37; (case' sw37 => rfl); (case' se37 => (first | exact fun _ _ _ => trivial | (intro t ht w; cases ht; simp [upE]))); (case' sh37 => (try simp only [Act.put, List.setIfInBounds_toArray, List.set_cons_zero, List.set_cons_succ])))
        (refine' head_val ?dw38 ?de38 ?dr38 ?dh38; (case' dw38 => rfl); (case' de38 => (first | exact fun _ _ _ => trivial | (intro t ht w; cases ht; simp [upE]))); (case' dr38 => (intro w' hw' _; go_simp; with_reducible rfl)); (case' dh38 => (try simp only [Act.put, List.setIfInBounds_toArray, List.set_cons_zero, List.set_cons_succ]))); (refine' head_val ?dw39 ?de39 ?dr39 ?dh39; (case' dw39 => rfl); (case' de39 => (first | exact fun _ _ _ => trivial | (intro t ht w; cases ht; simp [upE]))); (case' dr39 => (intro w' hw' _; go_simp; with_reducible rfl)); (case' dh39 => (try simp only [Act.put, List.setIfInBounds_toArray, List.set_cons_zero, List.set_cons_succ]))); (refine' head_val ?dw40 ?de40 ?dr40 ?dh40; (case' dw40 => rfl); (case' de40 => (first | exact fun _ _ _ => trivial | (intro t ht w; cases ht; simp [upE]))); (case' dr40 => (intro w' hw' _; go_simp; with_reducible rfl)); (case' dh40 => (try simp only [Act.put, List.setIfInBounds_toArray, List.set_cons_zero, List.set_cons_succ])))
        refine head_nil ?_
        intro w4 hb _
        refine wpList_nil ?_
        replace HO := hid (HO.out.grow hb)
        replace HG := hid (Grow.trans HG.out hb)
        clear hb
        go_wp2_with (refine op_alloc rfl rfl ?_)
        intro g10 w5 hgl _ hb hr
        have HNE := hid (own_ne HO.out hgl)
        have HGL := hid (Nat.le_trans HG.out.size hgl)
        replace HO := hid (HO.out.grow hb)
        replace HG := hid (Grow.trans HG.out hb)
        have HR := hid hr
        clear hgl hb hr
        try simp only [Act.put, List.setIfInBounds_toArray, List.set_cons_zero, List.set_cons_succ]
        go_wp2_with fail
        refine wp_region_pick [0, 1, 3, 4] [2, 5, 6] rfl (by kernel_rfl) rfl (by kernel_rfl) ?_
        (refine' pick_val (by rfl) ?pw41 ?pr41 ?pq41 ?ph41; (case' pw41 => rfl); (case' pq41 => (exact fun _ _ _ h => h)); (case' pr41 => (intro w'; go_simp; with_reducible rfl)); (case' ph41 => (try simp only [List.getElem_toArray, List.getElem_cons_zero, List.getElem_cons_succ, Act.put, List.setIfInBounds_toArray, List.set_cons_zero, List.set_cons_succ]))); (refine' pick_val (by rfl) ?pw42 ?pr42 ?pq42 ?ph42; (case' pw42 => rfl); (case' pq42 => (exact fun _ _ _ h => h)); (case' pr42 => (intro w'; go_simp; with_reducible rfl)); (case' ph42 => (try simp only [List.getElem_toArray, List.getElem_cons_zero, List.getElem_cons_succ, Act.put, List.setIfInBounds_toArray, List.set_cons_zero, List.set_cons_succ]))); (refine' pick_val (by rfl) ?pw43 ?pr43 ?pq43 ?ph43; (case' pw43 => rfl); (case' pq43 => (exact fun _ _ _ h => h)); (case' pr43 => (intro w'; go_simp; with_reducible rfl)); (case' ph43 => (try simp only [List.getElem_toArray, List.getElem_cons_zero, List.getElem_cons_succ, Act.put, List.setIfInBounds_toArray, List.set_cons_zero, List.set_cons_succ]))); (refine' pick_val (by rfl) ?pw44 ?pr44 ?pq44 ?ph44; (case' pw44 => rfl); (case' pq44 => (exact fun _ _ _ h => h)); (case' pr44 => (intro w'; go_simp; with_reducible rfl)); (case' ph44 => (try simp only [List.getElem_toArray, List.getElem_cons_zero, List.getElem_cons_succ, Act.put, List.setIfInBounds_toArray, List.set_cons_zero, List.set_cons_succ])))
        (refine pick_nil ?_; show wpList _ _ _ (_ :: _ :: _ :: []) _ _)
        have hb := grow_drawn w5
        generalize ({ w5 with drawn := w5.drawn + 1 } : World) = w6 at *
        replace HO := hid (HO.out.grow hb)
        replace HG := hid (Grow.trans HG.out hb)
        replace HR := hid (grow_block HR.out hb)
        clear hb
        go_wp2_with (first | (refine op_loadAt (l := y) rfl rfl rfl (fun j v hv => grow_cell (HCy.out j v hv) HG.out) Hy32.out ?_) | (refine op_storeId (l := y) rfl rfl rfl rfl rfl HR.out (by rfl) Hy32.out ?_))
        intro w7 hz hgz hbz
        replace HO := hid (own_store HO.out hgz HNE.out)
        replace HG := hid (hbz _ _ HG.out HGL.out)
        clear HR
        have HR := hid hz
        clear hz hgz hbz
        go_wp2_with (refine op_callFn (f := f) (cap := #[]) (u1 := .bool false) (u2 := .bool true) (v := .bool (cnt false true)) rfl rfl rfl rfl rfl HE.out (HF.out false true _) ?_)
        intro w8 hb
        replace HO := hid (HO.out.grow hb)
        replace HG := hid (Grow.trans HG.out hb)
        replace HR := hid (grow_block HR.out hb)
        clear hb
        have HN2 := hid (show ([] : List IdL).length + b.length ≤ m by have := HN.out; simp at this ⊢; omega)
        cases hcnt : cnt false true with
        | true =>
          have HCNT := hid hcnt
          clear hcnt
          have HM2 := hid (show (o ++ [y]) ++ mergeN cnt m ([] : List IdL) b = mergeN cnt (xs.length + ys.length) xs ys by rw [← HM.out, mergeN, HCNT.out]; simp)
          have HMX2 := hid (show (o ++ [y]).length + (([] : List IdL).length + b.length) ≤ 1000000 by have := HMX.out; simp at this ⊢; omega)
          have hol : o.length ≤ 1000000 := by have := HMX.out; omega
          go_wp2_with (first | (refine op_loadId rfl rfl rfl HR.out Hy32.out ?_) | (refine op_appIds1 (w0 := w) (l1 := y) rfl rfl rfl rfl rfl rfl (fun _ => rfl) (fun _ => rfl) Hy32.out HO.out HG.out HG.out.size (by omega) ?_))
          intro u10 v10 w9 ho hb hs
          clear HO HG
          have HO := hid ho
          have HG := hid hb
          clear ho hb hs hol
          go_wp2
          go_roundg (m + 1)
          case rel => exact ⟨m, ([] : List IdL), b, A', some (tailA bd cb'), ca', cb' - 1, o ++ [y], rfl, HN2, by first | rfl | simp, by first | rfl | simp, HM2, HX, HYt, H1, H2t, HC1, HC2t, HMX2, HO, HG⟩
          case measure => omega
        | false =>
          have HCNT := hid hcnt
          clear hcnt
          have HM2 := hid (show o ++ mergeN cnt m ([] : List IdL) b = mergeN cnt (xs.length + ys.length) xs ys by rw [← HM.out, mergeN, HCNT.out]; simp)
          have HMX2 := hid (show o.length + (([] : List IdL).length + b.length) ≤ 1000000 by have := HMX.out; simp at this ⊢; omega)
          go_wp2
          go_roundg (m + 1)
          case rel => exact ⟨m, ([] : List IdL), b, A', some (tailA bd cb'), ca', cb' - 1, o, rfl, HN2, by first | rfl | simp, by first | rfl | simp, HM2, HX, HYt, H1, H2t, HC1, HC2t, HMX2, HO, HG⟩
          case measure => omega
    | cons x a =>
      cases b with
      | nil =>
        obtain ⟨m, rfl⟩ : ∃ m, n = m + 1 := ⟨n - 1, by have := HN.out; simp at this; omega⟩
        try simp only [List.length_cons]
        obtain ⟨ad, rfl, hca⟩ := HX.out.at_ 0 (by simp)
        have HCx := hid hca
        have Hx32 := hid (show x.length = 32 from H1.out _ List.mem_cons_self)
        have HXt := hid (idRow_tail HX.out (by have := HC1.out; simpa using this))
        have H1t := hid (show ∀ s ∈ a, s.length = 32 from fun s hs => H1.out s (List.mem_cons_of_mem _ hs))
        have HC1t := hid (show a.length ≤ ca' - 1 by have := HC1.out; simp at this; omega)
        have hsa := run_tail (ad := ad) (n := a.length + 1) (c := ca') (by omega)
        simp only [Nat.add_sub_cancel] at hsa
        clear hca
        have ta1 : (0 : Int) < (a.length : Int) + 1 := by omega
        have ta2 : ((a.length : Int) + 1 == 0) = false := by simp; omega
        have ta3 : decide ((0 : Int) < (a.length : Int) + 1) = true := decide_eq_true (by omega)
        go_wp2_with fail
        (refine' wp_region_head 19 0 [_, _, _, _, _, _, _, _, _, _, _, _, _, _, _, _, _, _, _] rfl (by kernel_rfl) (by kernel_rfl) ?hreg45; case' hreg45 => simp only [List.take_succ_cons, List.take_zero, List.zip_cons_cons, List.zip_nil_right, List.drop_succ_cons, List.drop_zero, List.drop_nil])
        (refine' head_val ?dw46 ?de46 ?dr46 ?dh46; (case' dw46 => rfl); (case' de46 => (first | exact fun _ _ _ => trivial | (intro t ht w; cases ht; simp [upE]))); (case' dr46 => (intro w' hw' _; go_simp; with_reducible rfl)); (case' dh46 => (try simp only [Act.put, List.setIfInBounds_toArray, List.set_cons_zero, List.set_cons_succ]))); (refine' head_val ?dw47 ?de47 ?dr47 ?dh47; (case' dw47 => rfl); (case' de47 => (first | exact fun _ _ _ => trivial | (intro t ht w; cases ht; simp [upE]))); (case' dr47 => (intro w' hw' _; go_simp; with_reducible rfl)); (case' dh47 => (try simp only [Act.put, List.setIfInBounds_toArray, List.set_cons_zero, List.set_cons_succ]))); (refine' head_val ?dw48 ?de48 ?dr48 ?dh48; (case' dw48 => rfl); (case' de48 => (first | exact fun _ _ _ => trivial | (intro t ht w; cases ht; simp [upE]))); (case' dr48 => (intro w' hw' _; go_simp; with_reducible rfl)); (case' dh48 => (try simp only [Act.put, List.setIfInBounds_toArray, List.set_cons_zero, List.set_cons_succ]))); (refine' head_val ?dw49 ?de49 ?dr49 ?dh49; (case' dw49 => rfl); (case' de49 => (first | exact fun _ _ _ => trivial | (intro t ht w; cases ht; simp [upE]))); (case' dr49 => (intro w' hw' _; go_simp; with_reducible rfl)); (case' dh49 => (try simp only [Act.put, List.setIfInBounds_toArray, List.set_cons_zero, List.set_cons_succ]))); (refine' head_val ?dw50 ?de50 ?dr50 ?dh50; (case' dw50 => rfl); (case' de50 => (first | exact fun _ _ _ => trivial | (intro t ht w; cases ht; simp [upE]))); (case' dr50 => (intro w' hw' _; go_simp; with_reducible rfl)); (case' dh50 => (try simp only [Act.put, List.setIfInBounds_toArray, List.set_cons_zero, List.set_cons_succ]))); (refine' head_val ?dw51 ?de51 ?dr51 ?dh51; (case' dw51 => rfl); (case' de51 => (first | exact fun _ _ _ => trivial | (intro t ht w; cases ht; simp [upE]))); (case' dr51 => (intro w' hw' _; go_simp; with_reducible rfl)); (case' dh51 => (try simp only [Act.put, List.setIfInBounds_toArray, List.set_cons_zero, List.set_cons_succ]))); (refine' head_val ?dw52 ?de52 ?dr52 ?dh52; (case' dw52 => rfl); (case' de52 => (first | exact fun _ _ _ => trivial | (intro t ht w; cases ht; simp [upE]))); (case' dr52 => (intro w' hw' _; go_simp; with_reducible rfl)); (case' dh52 => (try simp only [Act.put, List.setIfInBounds_toArray, List.set_cons_zero, List.set_cons_succ]))); (refine' head_val ?dw53 ?de53 ?dr53 ?dh53; (case' dw53 => rfl); (case' de53 => (first | exact fun _ _ _ => trivial | (intro t ht w; cases ht; simp [upE]))); (case' dr53 => (intro w' hw' _; go_simp; with_reducible rfl)); (case' dh53 => (try simp only [Act.put, List.setIfInBounds_toArray, List.set_cons_zero, List.set_cons_succ])))
        (refine' head_skip (V := fun _ _ => True) ?sw54 ?se54 ?sh54; (case' sw54 => rfl); (case' se54 => (first | exact fun _ _ _ => trivial | (intro t ht w; cases ht; simp [upE]))); (case' sh54 => (try simp only [Act.put, List.setIfInBounds_toArray, List.set_cons_zero, List.set_cons_succ]))); (refine' head_skip (V := fun _ _ => True) ?sw55 ?se55 ?sh55; (case' sw55 => rfl); (case' se55 => (first | exact fun _ _ _ => trivial | (intro t ht w; cases ht; simp [upE]))); (case' sh55 => (try simp only [Act.put, List.setIfInBounds_toArray, List.set_cons_zero, List.set_cons_succ]))); (refine' head_skip (V := fun _ _ => True) ?sw56 ?se56 ?sh56; (case' sw56 => rfl); (case' se56 => (first | exact fun _ _ _ => trivial | (intro t ht w; cases ht; simp [upE]))); (case' sh56 => (try simp only [Act.put, List.setIfInBounds_toArray, List.set_cons_zero, List.set_cons_succ]))); (refine' head_skip (V := fun _ _ => True) ?sw57 ?se57 ?sh57; (case' sw57 => rfl); (case' se57 => (first | exact fun _ _ _ => trivial | (intro t ht w; cases ht; simp [upE]))); (case' sh57 => (try simp only [Act.put, List.setIfInBounds_toArray, List.set_cons_zero, List.set_cons_succ]))); (refine' head_skip (V := fun _ _ => True) ?sw58 ?se58 ?sh58; (case' sw58 => rfl); (case' se58 => (first | exact fun _ _ _ => trivial | (intro t ht w; cases ht; simp [upE]))); (case' sh58 => (try simp only [Act.put, List.setIfInBounds_toArray, List.set_cons_zero, List.set_cons_succ]))); (refine' head_skip (V := fun _ _ => True) ?sw59 ?se59 ?sh59; (case' sw59 => rfl); (case' se59 => (first | exact fun _ _ _ => trivial | (intro t ht w; cases ht; simp [upE]))); (case' sh59 => (try simp only [Act.put, List.setIfInBounds_toArray, List.set_cons_zero, List.set_cons_succ]))); (refine' head_skip (V := fun _ _ => True) ?sw60 ?se60 ?sh60; (case' sw60 => rfl); (case' se60 => (first | exact fun _ _ _ => trivial | (intro t ht w; cases ht; simp [upE]))); (case' sh60 => (try simp only [Act.put, List.setIfInBounds_toArray, List.set_cons_zero, List.set_cons_succ]))); (refine' head_skip (V := fun _ _ => True) ?sw61 ?se61 ?sh61; (case' sw61 => rfl); (case' se61 => (first | exact fun _ _ _ => trivial | (intro t ht w; cases ht; simp [upE]))); (case' sh61 => (try simp only [Act.put, List.setIfInBounds_toArray, List.set_cons_zero, List.set_cons_succ])))
        (refine' head_val ?dw62 ?de62 ?dr62 ?dh62; (case' dw62 => rfl); (case' de62 => (first | exact fun _ _ _ => trivial | (intro t ht w; cases ht; simp [upE]))); (case' dr62 => (intro w' hw' _; go_simp; with_reducible rfl)); (case' dh62 => (try simp only [Act.put, List.setIfInBounds_toArray, List.set_cons_zero, List.set_cons_succ]))); (refine' head_val ?dw63 ?de63 ?dr63 ?dh63; (case' dw63 => rfl); (case' de63 => (first | exact fun _ _ _ => trivial | (intro t ht w; cases ht; simp [upE]))); (case' dr63 => (intro w' hw' _; go_simp; with_reducible rfl)); (case' dh63 => (try simp only [Act.put, List.setIfInBounds_toArray, List.set_cons_zero, List.set_cons_succ]))); (refine' head_val ?dw64 ?de64 ?dr64 ?dh64; (case' dw64 => rfl); (case' de64 => (first | exact fun _ _ _ => trivial | (intro t ht w; cases ht; simp [upE]))); (case' dr64 => (intro w' hw' _; go_simp; with_reducible rfl)); (case' dh64 => (try simp only [Act.put, List.setIfInBounds_toArray, List.set_cons_zero, List.set_cons_succ])))
        refine head_nil ?_
        intro w3 hb _
        refine wpList_nil ?_
        replace HO := hid (HO.out.grow hb)
        replace HG := hid (Grow.trans HG.out hb)
        clear hb
        go_wp2_with fail
        (refine' wp_region_head 19 0 [_, _, _, _, _, _, _, _, _, _, _, _, _, _, _, _, _, _, _] rfl (by kernel_rfl) (by kernel_rfl) ?hreg65; case' hreg65 => simp only [List.take_succ_cons, List.take_zero, List.zip_cons_cons, List.zip_nil_right, List.drop_succ_cons, List.drop_zero, List.drop_nil])
        (refine' head_val ?dw66 ?de66 ?dr66 ?dh66; (case' dw66 => rfl); (case' de66 => (first | exact fun _ _ _ => trivial | (intro t ht w; cases ht; simp [upE]))); (case' dr66 => (intro w' hw' _; go_simp; with_reducible rfl)); (case' dh66 => (try simp only [Act.put, List.setIfInBounds_toArray, List.set_cons_zero, List.set_cons_succ]))); (refine' head_val ?dw67 ?de67 ?dr67 ?dh67; (case' dw67 => rfl); (case' de67 => (first | exact fun _ _ _ => trivial | (intro t ht w; cases ht; simp [upE]))); (case' dr67 => (intro w' hw' _; go_simp; with_reducible rfl)); (case' dh67 => (try simp only [Act.put, List.setIfInBounds_toArray, List.set_cons_zero, List.set_cons_succ]))); (refine' head_val ?dw68 ?de68 ?dr68 ?dh68; (case' dw68 => rfl); (case' de68 => (first | exact fun _ _ _ => trivial | (intro t ht w; cases ht; simp [upE]))); (case' dr68 => (intro w' hw' _; go_simp; with_reducible rfl)); (case' dh68 => (try simp only [Act.put, List.setIfInBounds_toArray, List.set_cons_zero, List.set_cons_succ]))); (refine' head_val ?dw69 ?de69 ?dr69 ?dh69; (case' dw69 => rfl); (case' de69 => (first | exact fun _ _ _ => trivial | (intro t ht w; cases ht; simp [upE]))); (case' dr69 => (intro w' hw' _; go_simp; with_reducible rfl)); (case' dh69 => (try simp only [Act.put, List.setIfInBounds_toArray, List.set_cons_zero, List.set_cons_succ])))
        (refine' head_skip (V := fun _ _ => True) ?sw70 ?se70 ?sh70; (case' sw70 => rfl); (case' se70 => (first | exact fun _ _ _ => trivial | (intro t ht w; cases ht; simp [upE]))); (case' sh70 => (try simp only [Act.put, List.setIfInBounds_toArray, List.set_cons_zero, List.set_cons_succ]))); (refine' head_skip (V := fun _ _ => True) ?sw71 ?se71 ?sh71; (case' sw71 => rfl); (case' se71 => (first | exact fun _ _ _ => trivial | (intro t ht w; cases ht; simp [upE]))); (case' sh71 => (try simp only [Act.put, List.setIfInBounds_toArray, List.set_cons_zero, List.set_cons_succ]))); (refine' head_skip (V := fun _ _ => True) ?sw72 ?se72 ?sh72; (case' sw72 => rfl); (case' se72 => (first | exact fun _ _ _ => trivial | (intro t ht w; cases ht; simp [upE]))); (case' sh72 => (try simp only [Act.put, List.setIfInBounds_toArray, List.set_cons_zero, List.set_cons_succ]))); (refine' head_skip (V := fun _ _ => True) ?sw73 ?se73 ?sh73; (case' sw73 => rfl); (case' se73 => (first | exact fun _ _ _ => trivial | (intro t ht w; cases ht; simp [upE]))); (case' sh73 => (try simp only [Act.put, List.setIfInBounds_toArray, List.set_cons_zero, List.set_cons_succ]))); (refine' head_skip (V := fun _ _ => True) ?sw74 ?se74 ?sh74; (case' sw74 => rfl); (case' se74 => (first | exact fun _ _ _ => trivial | (intro t ht w; cases ht; simp [upE]))); (case' sh74 => (try simp only [Act.put, List.setIfInBounds_toArray, List.set_cons_zero, List.set_cons_succ]))); (refine' head_skip (V := fun _ _ => True) ?sw75 ?se75 ?sh75; (case' sw75 => rfl); (case' se75 => (first | exact fun _ _ _ => trivial | (intro t ht w; cases ht; simp [upE]))); (case' sh75 => (try simp only [Act.put, List.setIfInBounds_toArray, List.set_cons_zero, List.set_cons_succ]))); (refine' head_skip (V := fun _ _ => True) ?sw76 ?se76 ?sh76; (case' sw76 => rfl); (case' se76 => (first | exact fun _ _ _ => trivial | (intro t ht w; cases ht; simp [upE]))); (case' sh76 => (try simp only [Act.put, List.setIfInBounds_toArray, List.set_cons_zero, List.set_cons_succ]))); (refine' head_skip (V := fun _ _ => True) ?sw77 ?se77 ?sh77; (case' sw77 => rfl); (case' se77 => (first | exact fun _ _ _ => trivial | (intro t ht w; cases ht; simp [upE]))); (case' sh77 => (try simp only [Act.put, List.setIfInBounds_toArray, List.set_cons_zero, List.set_cons_succ]))); (refine' head_skip (V := fun _ _ => True) ?sw78 ?se78 ?sh78; (case' sw78 => rfl); (case' se78 => (first | exact fun _ _ _ => trivial | (intro t ht w; cases ht; simp [upE]))); (case' sh78 => (try simp only [Act.put, List.setIfInBounds_toArray, List.set_cons_zero, List.set_cons_succ]))); (refine' head_skip (V := fun _ _ => True) ?sw79 ?se79 ?sh79; (case' sw79 => rfl); (case' se79 => (first | exact fun _ _ _ => trivial | (intro t ht w; cases ht; simp [upE]))); (case' sh79 => (try simp only [Act.put, List.setIfInBounds_toArray, List.set_cons_zero, List.set_cons_succ]))); (refine' head_skip (V := fun _ _ => True) ?sw80 ?se80 ?sh80; (case' sw80 => rfl); (case' se80 => (first | exact fun _ _ _ => trivial | (intro t ht w; cases ht; simp [upE]))); (case' sh80 => (try simp only [Act.put, List.setIfInBounds_toArray, List.set_cons_zero, List.set_cons_succ]))); (refine' head_skip (V := fun _ _ => True) ?sw81 ?se81 ?sh81; (case' sw81 => rfl); (case' se81 => (first | exact fun _ _ _ => trivial | (intro t ht w; cases ht; simp [upE]))); (case' sh81 => (try simp only [Act.put, List.setIfInBounds_toArray, List.set_cons_zero, List.set_cons_succ]))); (refine' head_skip (V := fun _ _ => True) ?sw82 ?se82 ?sh82; (case' sw82 => rfl); (case' se82 => (first | exact fun _ _ _ => trivial | (intro t ht w; cases ht; simp [upE]))); (case' sh82 => (try simp only [Act.put, List.setIfInBounds_toArray, List.set_cons_zero, List.set_cons_succ])))
        (refine' head_val ?dw83 ?de83 ?dr83 ?dh83; (case' dw83 => rfl); (case' de83 => (first | exact fun _ _ _ => trivial | (intro t ht w; cases ht; simp [upE]))); (case' dr83 => (intro w' hw' _; go_simp; with_reducible rfl)); (case' dh83 => (try simp only [Act.put, List.setIfInBounds_toArray, List.set_cons_zero, List.set_cons_succ]))); (refine' head_val ?dw84 ?de84 ?dr84 ?dh84; (case' dw84 => rfl); (case' de84 => (first | exact fun _ _ _ => trivial | (intro t ht w; cases ht; simp [upE]))); (case' dr84 => (intro w' hw' _; go_simp; with_reducible rfl)); (case' dh84 => (try simp only [Act.put, List.setIfInBounds_toArray, List.set_cons_zero, List.set_cons_succ])))
        refine head_nil ?_
        intro w4 hb _
        refine wpList_nil ?_
        replace HO := hid (HO.out.grow hb)
        replace HG := hid (Grow.trans HG.out hb)
        clear hb
        go_wp2_with (refine op_alloc rfl rfl ?_)
        intro g10 w5 hgl _ hb hr
        have HNE := hid (own_ne HO.out hgl)
        have HGL := hid (Nat.le_trans HG.out.size hgl)
        replace HO := hid (HO.out.grow hb)
        replace HG := hid (Grow.trans HG.out hb)
        have HR := hid hr
        clear hgl hb hr
        try simp only [Act.put, List.setIfInBounds_toArray, List.set_cons_zero, List.set_cons_succ]
        go_wp2_with fail
        refine wp_region_pick [0, 1, 3, 4] [2, 5, 6] rfl (by kernel_rfl) rfl (by kernel_rfl) ?_
        (refine' pick_val (by rfl) ?pw85 ?pr85 ?pq85 ?ph85; (case' pw85 => rfl); (case' pq85 => (exact fun _ _ _ h => h)); (case' pr85 => (intro w'; go_simp; with_reducible rfl)); (case' ph85 => (try simp only [List.getElem_toArray, List.getElem_cons_zero, List.getElem_cons_succ, Act.put, List.setIfInBounds_toArray, List.set_cons_zero, List.set_cons_succ]))); (refine' pick_val (by rfl) ?pw86 ?pr86 ?pq86 ?ph86; (case' pw86 => rfl); (case' pq86 => (exact fun _ _ _ h => h)); (case' pr86 => (intro w'; go_simp; with_reducible rfl)); (case' ph86 => (try simp only [List.getElem_toArray, List.getElem_cons_zero, List.getElem_cons_succ, Act.put, List.setIfInBounds_toArray, List.set_cons_zero, List.set_cons_succ]))); (refine' pick_val (by rfl) ?pw87 ?pr87 ?pq87 ?ph87; (case' pw87 => rfl); (case' pq87 => (exact fun _ _ _ h => h)); (case' pr87 => (intro w'; go_simp; with_reducible rfl)); (case' ph87 => (try simp only [List.getElem_toArray, List.getElem_cons_zero, List.getElem_cons_succ, Act.put, List.setIfInBounds_toArray, List.set_cons_zero, List.set_cons_succ]))); (refine' pick_val (by rfl) ?pw88 ?pr88 ?pq88 ?ph88; (case' pw88 => rfl); (case' pq88 => (exact fun _ _ _ h => h)); (case' pr88 => (intro w'; go_simp; with_reducible rfl)); (case' ph88 => (try simp only [List.getElem_toArray, List.getElem_cons_zero, List.getElem_cons_succ, Act.put, List.setIfInBounds_toArray, List.set_cons_zero, List.set_cons_succ])))
        (refine pick_nil ?_; show wpList _ _ _ (_ :: _ :: _ :: []) _ _)
        have hb := grow_drawn w5
        generalize ({ w5 with drawn := w5.drawn + 1 } : World) = w6 at *
        replace HO := hid (HO.out.grow hb)
        replace HG := hid (Grow.trans HG.out hb)
        replace HR := hid (grow_block HR.out hb)
        clear hb
        go_wp2_with (first | (refine op_loadAt (l := x) rfl rfl rfl (fun j v hv => grow_cell (HCx.out j v hv) HG.out) Hx32.out ?_) | (refine op_storeId (l := x) rfl rfl rfl rfl rfl HR.out (by rfl) Hx32.out ?_))
        intro w7 hz hgz hbz
        replace HO := hid (own_store HO.out hgz HNE.out)
        replace HG := hid (hbz _ _ HG.out HGL.out)
        clear HR
        have HR := hid hz
        clear hz hgz hbz
        go_wp2_with (refine op_callFn (f := f) (cap := #[]) (u1 := .bool true) (u2 := .bool false) (v := .bool (cnt true false)) rfl rfl rfl rfl rfl HE.out (HF.out true false _) ?_)
        intro w8 hb
        replace HO := hid (HO.out.grow hb)
        replace HG := hid (Grow.trans HG.out hb)
        replace HR := hid (grow_block HR.out hb)
        clear hb
        have HN2 := hid (show a.length + ([] : List IdL).length ≤ m by have := HN.out; simp at this ⊢; omega)
        cases hcnt : cnt true false with
        | true =>
          have HCNT := hid hcnt
          clear hcnt
          have HM2 := hid (show (o ++ [x]) ++ mergeN cnt m a ([] : List IdL) = mergeN cnt (xs.length + ys.length) xs ys by rw [← HM.out, mergeN, HCNT.out]; simp)
          have HMX2 := hid (show (o ++ [x]).length + (a.length + ([] : List IdL).length) ≤ 1000000 by have := HMX.out; simp at this ⊢; omega)
          have hol : o.length ≤ 1000000 := by have := HMX.out; omega
          go_wp2_with (first | (refine op_loadId rfl rfl rfl HR.out Hx32.out ?_) | (refine op_appIds1 (w0 := w) (l1 := x) rfl rfl rfl rfl rfl rfl (fun _ => rfl) (fun _ => rfl) Hx32.out HO.out HG.out HG.out.size (by omega) ?_))
          intro u10 v10 w9 ho hb hs
          clear HO HG
          have HO := hid ho
          have HG := hid hb
          clear ho hb hs hol
          go_wp2
          go_roundg (m + 1)
          case rel => exact ⟨m, a, ([] : List IdL), some (tailA ad ca'), B', ca' - 1, cb', o ++ [x], rfl, HN2, by first | rfl | simp, by first | rfl | simp, HM2, HXt, HY, H1t, H2, HC1t, HC2, HMX2, HO, HG⟩
          case measure => omega
        | false =>
          have HCNT := hid hcnt
          clear hcnt
          have HM2 := hid (show o ++ mergeN cnt m a ([] : List IdL) = mergeN cnt (xs.length + ys.length) xs ys by rw [← HM.out, mergeN, HCNT.out]; simp)
          have HMX2 := hid (show o.length + (a.length + ([] : List IdL).length) ≤ 1000000 by have := HMX.out; simp at this ⊢; omega)
          go_wp2
          go_roundg (m + 1)
          case rel => exact ⟨m, a, ([] : List IdL), some (tailA ad ca'), B', ca' - 1, cb', o, rfl, HN2, by first | rfl | simp, by first | rfl | simp, HM2, HXt, HY, H1t, H2, HC1t, HC2, HMX2, HO, HG⟩
          case measure => omega
      | cons y b =>
        obtain ⟨m, rfl⟩ : ∃ m, n = m + 1 := ⟨n - 1, by have := HN.out; simp at this; omega⟩
        try simp only [List.length_cons]
        obtain ⟨ad, rfl, hca⟩ := HX.out.at_ 0 (by simp)
        have HCx := hid hca
        have Hx32 := hid (show x.length = 32 from H1.out _ List.mem_cons_self)
        have HXt := hid (idRow_tail HX.out (by have := HC1.out; simpa using this))
        have H1t := hid (show ∀ s ∈ a, s.length = 32 from fun s hs => H1.out s (List.mem_cons_of_mem _ hs))
        have HC1t := hid (show a.length ≤ ca' - 1 by have := HC1.out; simp at this; omega)
        have hsa := run_tail (ad := ad) (n := a.length + 1) (c := ca') (by omega)
        simp only [Nat.add_sub_cancel] at hsa
        clear hca
        have ta1 : (0 : Int) < (a.length : Int) + 1 := by omega
        have ta2 : ((a.length : Int) + 1 == 0) = false := by simp; omega
        have ta3 : decide ((0 : Int) < (a.length : Int) + 1) = true := decide_eq_true (by omega)
        obtain ⟨bd, rfl, hcb⟩ := HY.out.at_ 0 (by simp)
        have HCy := hid hcb
        have Hy32 := hid (show y.length = 32 from H2.out _ List.mem_cons_self)
        have HYt := hid (idRow_tail HY.out (by have := HC2.out; simpa using this))
        have H2t := hid (show ∀ s ∈ b, s.length = 32 from fun s hs => H2.out s (List.mem_cons_of_mem _ hs))
        have HC2t := hid (show b.length ≤ cb' - 1 by have := HC2.out; simp at this; omega)
        have hsb := run_tail (ad := bd) (n := b.length + 1) (c := cb') (by omega)
        simp only [Nat.add_sub_cancel] at hsb
        clear hcb
        have tb1 : (0 : Int) < (b.length : Int) + 1 := by omega
        have tb2 : ((b.length : Int) + 1 == 0) = false := by simp; omega
        have tb3 : decide ((0 : Int) < (b.length : Int) + 1) = true := decide_eq_true (by omega)
        cases hyx : lexLess y x with
        | true =>
          have hxy := lexLess_asymm _ _ hyx
          have HYX := hid hyx
          go_wp2_with fail
          (refine' wp_region_head 19 0 [_, _, _, _, _, _, _, _, _, _, _, _, _, _, _, _, _, _, _] rfl (by kernel_rfl) (by kernel_rfl) ?hreg89; case' hreg89 => simp only [List.take_succ_cons, List.take_zero, List.zip_cons_cons, List.zip_nil_right, List.drop_succ_cons, List.drop_zero, List.drop_nil])
          (refine' head_val ?dw90 ?de90 ?dr90 ?dh90; (case' dw90 => rfl); (case' de90 => (first | exact fun _ _ _ => trivial | (intro t ht w; cases ht; simp [upE]))); (case' dr90 => (intro w' hw' _; go_simp; with_reducible rfl)); (case' dh90 => (try simp only [Act.put, List.setIfInBounds_toArray, List.set_cons_zero, List.set_cons_succ]))); (refine' head_val ?dw91 ?de91 ?dr91 ?dh91; (case' dw91 => rfl); (case' de91 => (first | exact fun _ _ _ => trivial | (intro t ht w; cases ht; simp [upE]))); (case' dr91 => (intro w' hw' _; go_simp; with_reducible rfl)); (case' dh91 => (try simp only [Act.put, List.setIfInBounds_toArray, List.set_cons_zero, List.set_cons_succ]))); (refine' head_val ?dw92 ?de92 ?dr92 ?dh92; (case' dw92 => rfl); (case' de92 => (first | exact fun _ _ _ => trivial | (intro t ht w; cases ht; simp [upE]))); (case' dr92 => (intro w' hw' _; go_simp; with_reducible rfl)); (case' dh92 => (try simp only [Act.put, List.setIfInBounds_toArray, List.set_cons_zero, List.set_cons_succ]))); (refine' head_val ?dw93 ?de93 ?dr93 ?dh93; (case' dw93 => rfl); (case' de93 => (first | exact fun _ _ _ => trivial | (intro t ht w; cases ht; simp [upE]))); (case' dr93 => (intro w' hw' _; go_simp; with_reducible rfl)); (case' dh93 => (try simp only [Act.put, List.setIfInBounds_toArray, List.set_cons_zero, List.set_cons_succ]))); (refine' head_val ?dw94 ?de94 ?dr94 ?dh94; (case' dw94 => rfl); (case' de94 => (first | exact fun _ _ _ => trivial | (intro t ht w; cases ht; simp [upE]))); (case' dr94 => (intro w' hw' _; go_simp; with_reducible rfl)); (case' dh94 => (try simp only [Act.put, List.setIfInBounds_toArray, List.set_cons_zero, List.set_cons_succ]))); (refine' head_val ?dw95 ?de95 ?dr95 ?dh95; (case' dw95 => rfl); (case' de95 => (first | exact fun _ _ _ => trivial | (intro t ht w; cases ht; simp [upE]))); (case' dr95 => (intro w' hw' _; go_simp; with_reducible rfl)); (case' dh95 => (try simp only [Act.put, List.setIfInBounds_toArray, List.set_cons_zero, List.set_cons_succ]))); (refine' head_val ?dw96 ?de96 ?dr96 ?dh96; (case' dw96 => rfl); (case' de96 => (first | exact fun _ _ _ => trivial | (intro t ht w; cases ht; simp [upE]))); (case' dr96 => (intro w' hw' _; go_simp; with_reducible rfl)); (case' dh96 => (try simp only [Act.put, List.setIfInBounds_toArray, List.set_cons_zero, List.set_cons_succ]))); (refine' head_val ?dw97 ?de97 ?dr97 ?dh97; (case' dw97 => rfl); (case' de97 => (first | exact fun _ _ _ => trivial | (intro t ht w; cases ht; simp [upE]))); (case' dr97 => (intro w' hw' _; go_simp; with_reducible rfl)); (case' dh97 => (try simp only [Act.put, List.setIfInBounds_toArray, List.set_cons_zero, List.set_cons_succ]))); (refine' head_val ?dw98 ?de98 ?dr98 ?dh98; (case' dw98 => rfl); (case' de98 => (first | exact fun _ _ _ => trivial | (intro t ht w; cases ht; simp [upE]))); (case' dr98 => (intro w' hw' _; go_simp; with_reducible rfl)); (case' dh98 => (try simp only [Act.put, List.setIfInBounds_toArray, List.set_cons_zero, List.set_cons_succ]))); (refine' head_val ?dw99 ?de99 ?dr99 ?dh99; (case' dw99 => rfl); (case' de99 => (first | exact fun _ _ _ => trivial | (intro t ht w; cases ht; simp [upE]))); (case' dr99 => (intro w' hw' _; go_simp; with_reducible rfl)); (case' dh99 => (try simp only [Act.put, List.setIfInBounds_toArray, List.set_cons_zero, List.set_cons_succ])))
          (refine' head_loadAt (x := _) rfl ?_ rfl rfl (fun j v hv => grow_cell (HCy.out j v hv) HG.out) (Hy32.out) ?_; (first | exact fun _ _ _ => trivial | (intro t ht w; cases ht; simp [upE])); try simp only [Act.put, List.setIfInBounds_toArray, List.set_cons_zero, List.set_cons_succ])
          (refine' head_val ?dw100 ?de100 ?dr100 ?dh100; (case' dw100 => rfl); (case' de100 => (first | exact fun _ _ _ => trivial | (intro t ht w; cases ht; simp [upE]))); (case' dr100 => (intro w' hw' _; go_simp; with_reducible rfl)); (case' dh100 => (try simp only [Act.put, List.setIfInBounds_toArray, List.set_cons_zero, List.set_cons_succ]))); (refine' head_val ?dw101 ?de101 ?dr101 ?dh101; (case' dw101 => rfl); (case' de101 => (first | exact fun _ _ _ => trivial | (intro t ht w; cases ht; simp [upE]))); (case' dr101 => (intro w' hw' _; go_simp; with_reducible rfl)); (case' dh101 => (try simp only [Act.put, List.setIfInBounds_toArray, List.set_cons_zero, List.set_cons_succ])))
          (refine' head_loadAt (x := _) rfl ?_ rfl rfl (fun j v hv => grow_cell (HCx.out j v hv) HG.out) (Hx32.out) ?_; (first | exact fun _ _ _ => trivial | (intro t ht w; cases ht; simp [upE])); try simp only [Act.put, List.setIfInBounds_toArray, List.set_cons_zero, List.set_cons_succ])
          (refine' head_call ?cw102 ?ce102 ?cr102 ?cc102 ?ch102; (case' cw102 => rfl); (case' ce102 => (first | exact fun _ _ _ => trivial | (intro t ht w; cases ht; simp [upE]))); (case' cr102 => (intro w'; go_simp; first | exact ⟨rfl, rfl⟩ | with_reducible rfl)); (case' cc102 => (intro w' hw' _; exact idLess y x Hy32.out Hx32.out w')); (case' ch102 => (try simp only [Act.put, List.setIfInBounds_toArray, List.set_cons_zero, List.set_cons_succ])))
          (refine' head_val ?dw103 ?de103 ?dr103 ?dh103; (case' dw103 => rfl); (case' de103 => (first | exact fun _ _ _ => trivial | (intro t ht w; cases ht; simp [upE]))); (case' dr103 => (intro w' hw' _; go_simp; with_reducible rfl)); (case' dh103 => (try simp only [Act.put, List.setIfInBounds_toArray, List.set_cons_zero, List.set_cons_succ]))); (refine' head_val ?dw104 ?de104 ?dr104 ?dh104; (case' dw104 => rfl); (case' de104 => (first | exact fun _ _ _ => trivial | (intro t ht w; cases ht; simp [upE]))); (case' dr104 => (intro w' hw' _; go_simp; with_reducible rfl)); (case' dh104 => (try simp only [Act.put, List.setIfInBounds_toArray, List.set_cons_zero, List.set_cons_succ]))); (refine' head_val ?dw105 ?de105 ?dr105 ?dh105; (case' dw105 => rfl); (case' de105 => (first | exact fun _ _ _ => trivial | (intro t ht w; cases ht; simp [upE]))); (case' dr105 => (intro w' hw' _; go_simp; with_reducible rfl)); (case' dh105 => (try simp only [Act.put, List.setIfInBounds_toArray, List.set_cons_zero, List.set_cons_succ]))); (refine' head_val ?dw106 ?de106 ?dr106 ?dh106; (case' dw106 => rfl); (case' de106 => (first | exact fun _ _ _ => trivial | (intro t ht w; cases ht; simp [upE]))); (case' dr106 => (intro w' hw' _; go_simp; with_reducible rfl)); (case' dh106 => (try simp only [Act.put, List.setIfInBounds_toArray, List.set_cons_zero, List.set_cons_succ])))
          refine head_nil ?_
          intro w3 hb _
          refine wpList_nil ?_
          replace HO := hid (HO.out.grow hb)
          replace HG := hid (Grow.trans HG.out hb)
          clear hb
          go_wp2_with fail
          (refine' wp_region_head 19 0 [_, _, _, _, _, _, _, _, _, _, _, _, _, _, _, _, _, _, _] rfl (by kernel_rfl) (by kernel_rfl) ?hreg107; case' hreg107 => simp only [List.take_succ_cons, List.take_zero, List.zip_cons_cons, List.zip_nil_right, List.drop_succ_cons, List.drop_zero, List.drop_nil])
          (refine' head_val ?dw108 ?de108 ?dr108 ?dh108; (case' dw108 => rfl); (case' de108 => (first | exact fun _ _ _ => trivial | (intro t ht w; cases ht; simp [upE]))); (case' dr108 => (intro w' hw' _; go_simp; with_reducible rfl)); (case' dh108 => (try simp only [Act.put, List.setIfInBounds_toArray, List.set_cons_zero, List.set_cons_succ]))); (refine' head_val ?dw109 ?de109 ?dr109 ?dh109; (case' dw109 => rfl); (case' de109 => (first | exact fun _ _ _ => trivial | (intro t ht w; cases ht; simp [upE]))); (case' dr109 => (intro w' hw' _; go_simp; with_reducible rfl)); (case' dh109 => (try simp only [Act.put, List.setIfInBounds_toArray, List.set_cons_zero, List.set_cons_succ]))); (refine' head_val ?dw110 ?de110 ?dr110 ?dh110; (case' dw110 => rfl); (case' de110 => (first | exact fun _ _ _ => trivial | (intro t ht w; cases ht; simp [upE]))); (case' dr110 => (intro w' hw' _; go_simp; with_reducible rfl)); (case' dh110 => (try simp only [Act.put, List.setIfInBounds_toArray, List.set_cons_zero, List.set_cons_succ]))); (refine' head_val ?dw111 ?de111 ?dr111 ?dh111; (case' dw111 => rfl); (case' de111 => (first | exact fun _ _ _ => trivial | (intro t ht w; cases ht; simp [upE]))); (case' dr111 => (intro w' hw' _; go_simp; with_reducible rfl)); (case' dh111 => (try simp only [Act.put, List.setIfInBounds_toArray, List.set_cons_zero, List.set_cons_succ]))); (refine' head_val ?dw112 ?de112 ?dr112 ?dh112; (case' dw112 => rfl); (case' de112 => (first | exact fun _ _ _ => trivial | (intro t ht w; cases ht; simp [upE]))); (case' dr112 => (intro w' hw' _; go_simp; with_reducible rfl)); (case' dh112 => (try simp only [Act.put, List.setIfInBounds_toArray, List.set_cons_zero, List.set_cons_succ]))); (refine' head_val ?dw113 ?de113 ?dr113 ?dh113; (case' dw113 => rfl); (case' de113 => (first | exact fun _ _ _ => trivial | (intro t ht w; cases ht; simp [upE]))); (case' dr113 => (intro w' hw' _; go_simp; with_reducible rfl)); (case' dh113 => (try simp only [Act.put, List.setIfInBounds_toArray, List.set_cons_zero, List.set_cons_succ]))); (refine' head_val ?dw114 ?de114 ?dr114 ?dh114; (case' dw114 => rfl); (case' de114 => (first | exact fun _ _ _ => trivial | (intro t ht w; cases ht; simp [upE]))); (case' dr114 => (intro w' hw' _; go_simp; with_reducible rfl)); (case' dh114 => (try simp only [Act.put, List.setIfInBounds_toArray, List.set_cons_zero, List.set_cons_succ]))); (refine' head_val ?dw115 ?de115 ?dr115 ?dh115; (case' dw115 => rfl); (case' de115 => (first | exact fun _ _ _ => trivial | (intro t ht w; cases ht; simp [upE]))); (case' dr115 => (intro w' hw' _; go_simp; with_reducible rfl)); (case' dh115 => (try simp only [Act.put, List.setIfInBounds_toArray, List.set_cons_zero, List.set_cons_succ]))); (refine' head_val ?dw116 ?de116 ?dr116 ?dh116; (case' dw116 => rfl); (case' de116 => (first | exact fun _ _ _ => trivial | (intro t ht w; cases ht; simp [upE]))); (case' dr116 => (intro w' hw' _; go_simp; with_reducible rfl)); (case' dh116 => (try simp only [Act.put, List.setIfInBounds_toArray, List.set_cons_zero, List.set_cons_succ]))); (refine' head_val ?dw117 ?de117 ?dr117 ?dh117; (case' dw117 => rfl); (case' de117 => (first | exact fun _ _ _ => trivial | (intro t ht w; cases ht; simp [upE]))); (case' dr117 => (intro w' hw' _; go_simp; with_reducible rfl)); (case' dh117 => (try simp only [Act.put, List.setIfInBounds_toArray, List.set_cons_zero, List.set_cons_succ])))
          (refine' head_loadAt (x := _) rfl ?_ rfl rfl (fun j v hv => grow_cell (HCx.out j v hv) HG.out) (Hx32.out) ?_; (first | exact fun _ _ _ => trivial | (intro t ht w; cases ht; simp [upE])); try simp only [Act.put, List.setIfInBounds_toArray, List.set_cons_zero, List.set_cons_succ])
          (refine' head_val ?dw118 ?de118 ?dr118 ?dh118; (case' dw118 => rfl); (case' de118 => (first | exact fun _ _ _ => trivial | (intro t ht w; cases ht; simp [upE]))); (case' dr118 => (intro w' hw' _; go_simp; with_reducible rfl)); (case' dh118 => (try simp only [Act.put, List.setIfInBounds_toArray, List.set_cons_zero, List.set_cons_succ]))); (refine' head_val ?dw119 ?de119 ?dr119 ?dh119; (case' dw119 => rfl); (case' de119 => (first | exact fun _ _ _ => trivial | (intro t ht w; cases ht; simp [upE]))); (case' dr119 => (intro w' hw' _; go_simp; with_reducible rfl)); (case' dh119 => (try simp only [Act.put, List.setIfInBounds_toArray, List.set_cons_zero, List.set_cons_succ])))
          (refine' head_loadAt (x := _) rfl ?_ rfl rfl (fun j v hv => grow_cell (HCy.out j v hv) HG.out) (Hy32.out) ?_; (first | exact fun _ _ _ => trivial | (intro t ht w; cases ht; simp [upE])); try simp only [Act.put, List.setIfInBounds_toArray, List.set_cons_zero, List.set_cons_succ])
          (refine' head_call ?cw120 ?ce120 ?cr120 ?cc120 ?ch120; (case' cw120 => rfl); (case' ce120 => (first | exact fun _ _ _ => trivial | (intro t ht w; cases ht; simp [upE]))); (case' cr120 => (intro w'; go_simp; first | exact ⟨rfl, rfl⟩ | with_reducible rfl)); (case' cc120 => (intro w' hw' _; exact idLess x y Hx32.out Hy32.out w')); (case' ch120 => (try simp only [Act.put, List.setIfInBounds_toArray, List.set_cons_zero, List.set_cons_succ])))
          (refine' head_val ?dw121 ?de121 ?dr121 ?dh121; (case' dw121 => rfl); (case' de121 => (first | exact fun _ _ _ => trivial | (intro t ht w; cases ht; simp [upE]))); (case' dr121 => (intro w' hw' _; go_simp; with_reducible rfl)); (case' dh121 => (try simp only [Act.put, List.setIfInBounds_toArray, List.set_cons_zero, List.set_cons_succ]))); (refine' head_val ?dw122 ?de122 ?dr122 ?dh122; (case' dw122 => rfl); (case' de122 => (first | exact fun _ _ _ => trivial | (intro t ht w; cases ht; simp [upE]))); (case' dr122 => (intro w' hw' _; go_simp; with_reducible rfl)); (case' dh122 => (try simp only [Act.put, List.setIfInBounds_toArray, List.set_cons_zero, List.set_cons_succ]))); (refine' head_val ?dw123 ?de123 ?dr123 ?dh123; (case' dw123 => rfl); (case' de123 => (first | exact fun _ _ _ => trivial | (intro t ht w; cases ht; simp [upE]))); (case' dr123 => (intro w' hw' _; go_simp; with_reducible rfl)); (case' dh123 => (try simp only [Act.put, List.setIfInBounds_toArray, List.set_cons_zero, List.set_cons_succ]))); (refine' head_val ?dw124 ?de124 ?dr124 ?dh124; (case' dw124 => rfl); (case' de124 => (first | exact fun _ _ _ => trivial | (intro t ht w; cases ht; simp [upE]))); (case' dr124 => (intro w' hw' _; go_simp; with_reducible rfl)); (case' dh124 => (try simp only [Act.put, List.setIfInBounds_toArray, List.set_cons_zero, List.set_cons_succ])))
          clear hyx hxy
          refine head_nil ?_
          intro w4 hb _
          refine wpList_nil ?_
          replace HO := hid (HO.out.grow hb)
          replace HG := hid (Grow.trans HG.out hb)
          clear hb
          go_wp2_with (refine op_alloc rfl rfl ?_)
          intro g10 w5 hgl _ hb hr
          have HNE := hid (own_ne HO.out hgl)
          have HGL := hid (Nat.le_trans HG.out.size hgl)
          replace HO := hid (HO.out.grow hb)
          replace HG := hid (Grow.trans HG.out hb)
          have HR := hid hr
          clear hgl hb hr
          try simp only [Act.put, List.setIfInBounds_toArray, List.set_cons_zero, List.set_cons_succ]
          go_wp2_with fail
          refine wp_region_pick [0, 1, 3, 4] [2, 5, 6] rfl (by kernel_rfl) rfl (by kernel_rfl) ?_
          (refine' pick_val (by rfl) ?pw125 ?pr125 ?pq125 ?ph125; (case' pw125 => rfl); (case' pq125 => (exact fun _ _ _ h => h)); (case' pr125 => (intro w'; go_simp; with_reducible rfl)); (case' ph125 => (try simp only [List.getElem_toArray, List.getElem_cons_zero, List.getElem_cons_succ, Act.put, List.setIfInBounds_toArray, List.set_cons_zero, List.set_cons_succ]))); (refine' pick_val (by rfl) ?pw126 ?pr126 ?pq126 ?ph126; (case' pw126 => rfl); (case' pq126 => (exact fun _ _ _ h => h)); (case' pr126 => (intro w'; go_simp; with_reducible rfl)); (case' ph126 => (try simp only [List.getElem_toArray, List.getElem_cons_zero, List.getElem_cons_succ, Act.put, List.setIfInBounds_toArray, List.set_cons_zero, List.set_cons_succ]))); (refine' pick_val (by rfl) ?pw127 ?pr127 ?pq127 ?ph127; (case' pw127 => rfl); (case' pq127 => (exact fun _ _ _ h => h)); (case' pr127 => (intro w'; go_simp; with_reducible rfl)); (case' ph127 => (try simp only [List.getElem_toArray, List.getElem_cons_zero, List.getElem_cons_succ, Act.put, List.setIfInBounds_toArray, List.set_cons_zero, List.set_cons_succ]))); (refine' pick_val (by rfl) ?pw128 ?pr128 ?pq128 ?ph128; (case' pw128 => rfl); (case' pq128 => (exact fun _ _ _ h => h)); (case' pr128 => (intro w'; go_simp; with_reducible rfl)); (case' ph128 => (try simp only [List.getElem_toArray, List.getElem_cons_zero, List.getElem_cons_succ, Act.put, List.setIfInBounds_toArray, List.set_cons_zero, List.set_cons_succ])))
          (refine pick_nil ?_; show wpList _ _ _ (_ :: _ :: _ :: []) _ _)
          have hb := grow_drawn w5
          generalize ({ w5 with drawn := w5.drawn + 1 } : World) = w6 at *
          replace HO := hid (HO.out.grow hb)
          replace HG := hid (Grow.trans HG.out hb)
          replace HR := hid (grow_block HR.out hb)
          clear hb
          go_wp2_with (first | (refine op_loadAt (l := y) rfl rfl rfl (fun j v hv => grow_cell (HCy.out j v hv) HG.out) Hy32.out ?_) | (refine op_storeId (l := y) rfl rfl rfl rfl rfl HR.out (by rfl) Hy32.out ?_))
          intro w7 hz hgz hbz
          replace HO := hid (own_store HO.out hgz HNE.out)
          replace HG := hid (hbz _ _ HG.out HGL.out)
          clear HR
          have HR := hid hz
          clear hz hgz hbz
          go_wp2_with (refine op_callFn (f := f) (cap := #[]) (u1 := .bool false) (u2 := .bool true) (v := .bool (cnt false true)) rfl rfl rfl rfl rfl HE.out (HF.out false true _) ?_)
          intro w8 hb
          replace HO := hid (HO.out.grow hb)
          replace HG := hid (Grow.trans HG.out hb)
          replace HR := hid (grow_block HR.out hb)
          clear hb
          have HN2 := hid (show (x :: a).length + b.length ≤ m by have := HN.out; simp at this ⊢; omega)
          cases hcnt : cnt false true with
          | true =>
            have HCNT := hid hcnt
            clear hcnt
            have HM2 := hid (show (o ++ [y]) ++ mergeN cnt m (x :: a) b = mergeN cnt (xs.length + ys.length) xs ys by rw [← HM.out, mergeN, if_pos HYX.out, HCNT.out]; simp)
            have HMX2 := hid (show (o ++ [y]).length + ((x :: a).length + b.length) ≤ 1000000 by have := HMX.out; simp at this ⊢; omega)
            have hol : o.length ≤ 1000000 := by have := HMX.out; omega
            go_wp2_with (first | (refine op_loadId rfl rfl rfl HR.out Hy32.out ?_) | (refine op_appIds1 (w0 := w) (l1 := y) rfl rfl rfl rfl rfl rfl (fun _ => rfl) (fun _ => rfl) Hy32.out HO.out HG.out HG.out.size (by omega) ?_))
            intro u10 v10 w9 ho hb hs
            clear HO HG
            have HO := hid ho
            have HG := hid hb
            clear ho hb hs hol
            go_wp2
            go_roundg (m + 1)
            case rel => exact ⟨m, (x :: a), b, some ad, some (tailA bd cb'), ca', cb' - 1, o ++ [y], rfl, HN2, by first | rfl | simp, by first | rfl | simp, HM2, HX, HYt, H1, H2t, HC1, HC2t, HMX2, HO, HG⟩
            case measure => omega
          | false =>
            have HCNT := hid hcnt
            clear hcnt
            have HM2 := hid (show o ++ mergeN cnt m (x :: a) b = mergeN cnt (xs.length + ys.length) xs ys by rw [← HM.out, mergeN, if_pos HYX.out, HCNT.out]; simp)
            have HMX2 := hid (show o.length + ((x :: a).length + b.length) ≤ 1000000 by have := HMX.out; simp at this ⊢; omega)
            go_wp2
            go_roundg (m + 1)
            case rel => exact ⟨m, (x :: a), b, some ad, some (tailA bd cb'), ca', cb' - 1, o, rfl, HN2, by first | rfl | simp, by first | rfl | simp, HM2, HX, HYt, H1, H2t, HC1, HC2t, HMX2, HO, HG⟩
            case measure => omega
        | false =>
          cases hxy : lexLess x y with
          | true =>
            have HYX := hid hyx
            have HXY := hid hxy
            go_wp2_with fail
            (refine' wp_region_head 19 0 [_, _, _, _, _, _, _, _, _, _, _, _, _, _, _, _, _, _, _] rfl (by kernel_rfl) (by kernel_rfl) ?hreg129; case' hreg129 => simp only [List.take_succ_cons, List.take_zero, List.zip_cons_cons, List.zip_nil_right, List.drop_succ_cons, List.drop_zero, List.drop_nil])
            (refine' head_val ?dw130 ?de130 ?dr130 ?dh130; (case' dw130 => rfl); (case' de130 => (first | exact fun _ _ _ => trivial | (intro t ht w; cases ht; simp [upE]))); (case' dr130 => (intro w' hw' _; go_simp; with_reducible rfl)); (case' dh130 => (try simp only [Act.put, List.setIfInBounds_toArray, List.set_cons_zero, List.set_cons_succ]))); (refine' head_val ?dw131 ?de131 ?dr131 ?dh131; (case' dw131 => rfl); (case' de131 => (first | exact fun _ _ _ => trivial | (intro t ht w; cases ht; simp [upE]))); (case' dr131 => (intro w' hw' _; go_simp; with_reducible rfl)); (case' dh131 => (try simp only [Act.put, List.setIfInBounds_toArray, List.set_cons_zero, List.set_cons_succ]))); (refine' head_val ?dw132 ?de132 ?dr132 ?dh132; (case' dw132 => rfl); (case' de132 => (first | exact fun _ _ _ => trivial | (intro t ht w; cases ht; simp [upE]))); (case' dr132 => (intro w' hw' _; go_simp; with_reducible rfl)); (case' dh132 => (try simp only [Act.put, List.setIfInBounds_toArray, List.set_cons_zero, List.set_cons_succ]))); (refine' head_val ?dw133 ?de133 ?dr133 ?dh133; (case' dw133 => rfl); (case' de133 => (first | exact fun _ _ _ => trivial | (intro t ht w; cases ht; simp [upE]))); (case' dr133 => (intro w' hw' _; go_simp; with_reducible rfl)); (case' dh133 => (try simp only [Act.put, List.setIfInBounds_toArray, List.set_cons_zero, List.set_cons_succ]))); (refine' head_val ?dw134 ?de134 ?dr134 ?dh134; (case' dw134 => rfl); (case' de134 => (first | exact fun _ _ _ => trivial | (intro t ht w; cases ht; simp [upE]))); (case' dr134 => (intro w' hw' _; go_simp; with_reducible rfl)); (case' dh134 => (try simp only [Act.put, List.setIfInBounds_toArray, List.set_cons_zero, List.set_cons_succ]))); (refine' head_val ?dw135 ?de135 ?dr135 ?dh135; (case' dw135 => rfl); (case' de135 => (first | exact fun _ _ _ => trivial | (intro t ht w; cases ht; simp [upE]))); (case' dr135 => (intro w' hw' _; go_simp; with_reducible rfl)); (case' dh135 => (try simp only [Act.put, List.setIfInBounds_toArray, List.set_cons_zero, List.set_cons_succ]))); (refine' head_val ?dw136 ?de136 ?dr136 ?dh136; (case' dw136 => rfl); (case' de136 => (first | exact fun _ _ _ => trivial | (intro t ht w; cases ht; simp [upE]))); (case' dr136 => (intro w' hw' _; go_simp; with_reducible rfl)); (case' dh136 => (try simp only [Act.put, List.setIfInBounds_toArray, List.set_cons_zero, List.set_cons_succ]))); (refine' head_val ?dw137 ?de137 ?dr137 ?dh137; (case' dw137 => rfl); (case' de137 => (first | exact fun _ _ _ => trivial | (intro t ht w; cases ht; simp [upE]))); (case' dr137 => (intro w' hw' _; go_simp; with_reducible rfl)); (case' dh137 => (try simp only [Act.put, List.setIfInBounds_toArray, List.set_cons_zero, List.set_cons_succ]))); (refine' head_val ?dw138 ?de138 ?dr138 ?dh138; (case' dw138 => rfl); (case' de138 => (first | exact fun _ _ _ => trivial | (intro t ht w; cases ht; simp [upE]))); (case' dr138 => (intro w' hw' _; go_simp; with_reducible rfl)); (case' dh138 => (try simp only [Act.put, List.setIfInBounds_toArray, List.set_cons_zero, List.set_cons_succ]))); (refine' head_val ?dw139 ?de139 ?dr139 ?dh139; (case' dw139 => rfl); (case' de139 => (first | exact fun _ _ _ => trivial | (intro t ht w; cases ht; simp [upE]))); (case' dr139 => (intro w' hw' _; go_simp; with_reducible rfl)); (case' dh139 => (try simp only [Act.put, List.setIfInBounds_toArray, List.set_cons_zero, List.set_cons_succ])))
            (refine' head_loadAt (x := _) rfl ?_ rfl rfl (fun j v hv => grow_cell (HCy.out j v hv) HG.out) (Hy32.out) ?_; (first | exact fun _ _ _ => trivial | (intro t ht w; cases ht; simp [upE])); try simp only [Act.put, List.setIfInBounds_toArray, List.set_cons_zero, List.set_cons_succ])
            (refine' head_val ?dw140 ?de140 ?dr140 ?dh140; (case' dw140 => rfl); (case' de140 => (first | exact fun _ _ _ => trivial | (intro t ht w; cases ht; simp [upE]))); (case' dr140 => (intro w' hw' _; go_simp; with_reducible rfl)); (case' dh140 => (try simp only [Act.put, List.setIfInBounds_toArray, List.set_cons_zero, List.set_cons_succ]))); (refine' head_val ?dw141 ?de141 ?dr141 ?dh141; (case' dw141 => rfl); (case' de141 => (first | exact fun _ _ _ => trivial | (intro t ht w; cases ht; simp [upE]))); (case' dr141 => (intro w' hw' _; go_simp; with_reducible rfl)); (case' dh141 => (try simp only [Act.put, List.setIfInBounds_toArray, List.set_cons_zero, List.set_cons_succ])))
            (refine' head_loadAt (x := _) rfl ?_ rfl rfl (fun j v hv => grow_cell (HCx.out j v hv) HG.out) (Hx32.out) ?_; (first | exact fun _ _ _ => trivial | (intro t ht w; cases ht; simp [upE])); try simp only [Act.put, List.setIfInBounds_toArray, List.set_cons_zero, List.set_cons_succ])
            (refine' head_call ?cw142 ?ce142 ?cr142 ?cc142 ?ch142; (case' cw142 => rfl); (case' ce142 => (first | exact fun _ _ _ => trivial | (intro t ht w; cases ht; simp [upE]))); (case' cr142 => (intro w'; go_simp; first | exact ⟨rfl, rfl⟩ | with_reducible rfl)); (case' cc142 => (intro w' hw' _; exact idLess y x Hy32.out Hx32.out w')); (case' ch142 => (try simp only [Act.put, List.setIfInBounds_toArray, List.set_cons_zero, List.set_cons_succ])))
            (refine' head_val ?dw143 ?de143 ?dr143 ?dh143; (case' dw143 => rfl); (case' de143 => (first | exact fun _ _ _ => trivial | (intro t ht w; cases ht; simp [upE]))); (case' dr143 => (intro w' hw' _; go_simp; with_reducible rfl)); (case' dh143 => (try simp only [Act.put, List.setIfInBounds_toArray, List.set_cons_zero, List.set_cons_succ]))); (refine' head_val ?dw144 ?de144 ?dr144 ?dh144; (case' dw144 => rfl); (case' de144 => (first | exact fun _ _ _ => trivial | (intro t ht w; cases ht; simp [upE]))); (case' dr144 => (intro w' hw' _; go_simp; with_reducible rfl)); (case' dh144 => (try simp only [Act.put, List.setIfInBounds_toArray, List.set_cons_zero, List.set_cons_succ]))); (refine' head_val ?dw145 ?de145 ?dr145 ?dh145; (case' dw145 => rfl); (case' de145 => (first | exact fun _ _ _ => trivial | (intro t ht w; cases ht; simp [upE]))); (case' dr145 => (intro w' hw' _; go_simp; with_reducible rfl)); (case' dh145 => (try simp only [Act.put, List.setIfInBounds_toArray, List.set_cons_zero, List.set_cons_succ]))); (refine' head_val ?dw146 ?de146 ?dr146 ?dh146; (case' dw146 => rfl); (case' de146 => (first | exact fun _ _ _ => trivial | (intro t ht w; cases ht; simp [upE]))); (case' dr146 => (intro w' hw' _; go_simp; with_reducible rfl)); (case' dh146 => (try simp only [Act.put, List.setIfInBounds_toArray, List.set_cons_zero, List.set_cons_succ])))
            refine head_nil ?_
            intro w3 hb _
            refine wpList_nil ?_
            replace HO := hid (HO.out.grow hb)
            replace HG := hid (Grow.trans HG.out hb)
            clear hb
            go_wp2_with fail
            (refine' wp_region_head 19 0 [_, _, _, _, _, _, _, _, _, _, _, _, _, _, _, _, _, _, _] rfl (by kernel_rfl) (by kernel_rfl) ?hreg147; case' hreg147 => simp only [List.take_succ_cons, List.take_zero, List.zip_cons_cons, List.zip_nil_right, List.drop_succ_cons, List.drop_zero, List.drop_nil])
            (refine' head_val ?dw148 ?de148 ?dr148 ?dh148; (case' dw148 => rfl); (case' de148 => (first | exact fun _ _ _ => trivial | (intro t ht w; cases ht; simp [upE]))); (case' dr148 => (intro w' hw' _; go_simp; with_reducible rfl)); (case' dh148 => (try simp only [Act.put, List.setIfInBounds_toArray, List.set_cons_zero, List.set_cons_succ]))); (refine' head_val ?dw149 ?de149 ?dr149 ?dh149; (case' dw149 => rfl); (case' de149 => (first | exact fun _ _ _ => trivial | (intro t ht w; cases ht; simp [upE]))); (case' dr149 => (intro w' hw' _; go_simp; with_reducible rfl)); (case' dh149 => (try simp only [Act.put, List.setIfInBounds_toArray, List.set_cons_zero, List.set_cons_succ]))); (refine' head_val ?dw150 ?de150 ?dr150 ?dh150; (case' dw150 => rfl); (case' de150 => (first | exact fun _ _ _ => trivial | (intro t ht w; cases ht; simp [upE]))); (case' dr150 => (intro w' hw' _; go_simp; with_reducible rfl)); (case' dh150 => (try simp only [Act.put, List.setIfInBounds_toArray, List.set_cons_zero, List.set_cons_succ]))); (refine' head_val ?dw151 ?de151 ?dr151 ?dh151; (case' dw151 => rfl); (case' de151 => (first | exact fun _ _ _ => trivial | (intro t ht w; cases ht; simp [upE]))); (case' dr151 => (intro w' hw' _; go_simp; with_reducible rfl)); (case' dh151 => (try simp only [Act.put, List.setIfInBounds_toArray, List.set_cons_zero, List.set_cons_succ]))); (refine' head_val ?dw152 ?de152 ?dr152 ?dh152; (case' dw152 => rfl); (case' de152 => (first | exact fun _ _ _ => trivial | (intro t ht w; cases ht; simp [upE]))); (case' dr152 => (intro w' hw' _; go_simp; with_reducible rfl)); (case' dh152 => (try simp only [Act.put, List.setIfInBounds_toArray, List.set_cons_zero, List.set_cons_succ]))); (refine' head_val ?dw153 ?de153 ?dr153 ?dh153; (case' dw153 => rfl); (case' de153 => (first | exact fun _ _ _ => trivial | (intro t ht w; cases ht; simp [upE]))); (case' dr153 => (intro w' hw' _; go_simp; with_reducible rfl)); (case' dh153 => (try simp only [Act.put, List.setIfInBounds_toArray, List.set_cons_zero, List.set_cons_succ]))); (refine' head_val ?dw154 ?de154 ?dr154 ?dh154; (case' dw154 => rfl); (case' de154 => (first | exact fun _ _ _ => trivial | (intro t ht w; cases ht; simp [upE]))); (case' dr154 => (intro w' hw' _; go_simp; with_reducible rfl)); (case' dh154 => (try simp only [Act.put, List.setIfInBounds_toArray, List.set_cons_zero, List.set_cons_succ]))); (refine' head_val ?dw155 ?de155 ?dr155 ?dh155; (case' dw155 => rfl); (case' de155 => (first | exact fun _ _ _ => trivial | (intro t ht w; cases ht; simp [upE]))); (case' dr155 => (intro w' hw' _; go_simp; with_reducible rfl)); (case' dh155 => (try simp only [Act.put, List.setIfInBounds_toArray, List.set_cons_zero, List.set_cons_succ]))); (refine' head_val ?dw156 ?de156 ?dr156 ?dh156; (case' dw156 => rfl); (case' de156 => (first | exact fun _ _ _ => trivial | (intro t ht w; cases ht; simp [upE]))); (case' dr156 => (intro w' hw' _; go_simp; with_reducible rfl)); (case' dh156 => (try simp only [Act.put, List.setIfInBounds_toArray, List.set_cons_zero, List.set_cons_succ]))); (refine' head_val ?dw157 ?de157 ?dr157 ?dh157; (case' dw157 => rfl); (case' de157 => (first | exact fun _ _ _ => trivial | (intro t ht w; cases ht; simp [upE]))); (case' dr157 => (intro w' hw' _; go_simp; with_reducible rfl)); (case' dh157 => (try simp only [Act.put, List.setIfInBounds_toArray, List.set_cons_zero, List.set_cons_succ])))
            (refine' head_loadAt (x := _) rfl ?_ rfl rfl (fun j v hv => grow_cell (HCx.out j v hv) HG.out) (Hx32.out) ?_; (first | exact fun _ _ _ => trivial | (intro t ht w; cases ht; simp [upE])); try simp only [Act.put, List.setIfInBounds_toArray, List.set_cons_zero, List.set_cons_succ])
            (refine' head_val ?dw158 ?de158 ?dr158 ?dh158; (case' dw158 => rfl); (case' de158 => (first | exact fun _ _ _ => trivial | (intro t ht w; cases ht; simp [upE]))); (case' dr158 => (intro w' hw' _; go_simp; with_reducible rfl)); (case' dh158 => (try simp only [Act.put, List.setIfInBounds_toArray, List.set_cons_zero, List.set_cons_succ]))); (refine' head_val ?dw159 ?de159 ?dr159 ?dh159; (case' dw159 => rfl); (case' de159 => (first | exact fun _ _ _ => trivial | (intro t ht w; cases ht; simp [upE]))); (case' dr159 => (intro w' hw' _; go_simp; with_reducible rfl)); (case' dh159 => (try simp only [Act.put, List.setIfInBounds_toArray, List.set_cons_zero, List.set_cons_succ])))
            (refine' head_loadAt (x := _) rfl ?_ rfl rfl (fun j v hv => grow_cell (HCy.out j v hv) HG.out) (Hy32.out) ?_; (first | exact fun _ _ _ => trivial | (intro t ht w; cases ht; simp [upE])); try simp only [Act.put, List.setIfInBounds_toArray, List.set_cons_zero, List.set_cons_succ])
            (refine' head_call ?cw160 ?ce160 ?cr160 ?cc160 ?ch160; (case' cw160 => rfl); (case' ce160 => (first | exact fun _ _ _ => trivial | (intro t ht w; cases ht; simp [upE]))); (case' cr160 => (intro w'; go_simp; first | exact ⟨rfl, rfl⟩ | with_reducible rfl)); (case' cc160 => (intro w' hw' _; exact idLess x y Hx32.out Hy32.out w')); (case' ch160 => (try simp only [Act.put, List.setIfInBounds_toArray, List.set_cons_zero, List.set_cons_succ])))
            (refine' head_val ?dw161 ?de161 ?dr161 ?dh161; (case' dw161 => rfl); (case' de161 => (first | exact fun _ _ _ => trivial | (intro t ht w; cases ht; simp [upE]))); (case' dr161 => (intro w' hw' _; go_simp; with_reducible rfl)); (case' dh161 => (try simp only [Act.put, List.setIfInBounds_toArray, List.set_cons_zero, List.set_cons_succ]))); (refine' head_val ?dw162 ?de162 ?dr162 ?dh162; (case' dw162 => rfl); (case' de162 => (first | exact fun _ _ _ => trivial | (intro t ht w; cases ht; simp [upE]))); (case' dr162 => (intro w' hw' _; go_simp; with_reducible rfl)); (case' dh162 => (try simp only [Act.put, List.setIfInBounds_toArray, List.set_cons_zero, List.set_cons_succ]))); (refine' head_val ?dw163 ?de163 ?dr163 ?dh163; (case' dw163 => rfl); (case' de163 => (first | exact fun _ _ _ => trivial | (intro t ht w; cases ht; simp [upE]))); (case' dr163 => (intro w' hw' _; go_simp; with_reducible rfl)); (case' dh163 => (try simp only [Act.put, List.setIfInBounds_toArray, List.set_cons_zero, List.set_cons_succ]))); (refine' head_val ?dw164 ?de164 ?dr164 ?dh164; (case' dw164 => rfl); (case' de164 => (first | exact fun _ _ _ => trivial | (intro t ht w; cases ht; simp [upE]))); (case' dr164 => (intro w' hw' _; go_simp; with_reducible rfl)); (case' dh164 => (try simp only [Act.put, List.setIfInBounds_toArray, List.set_cons_zero, List.set_cons_succ])))
            clear hyx hxy
            refine head_nil ?_
            intro w4 hb _
            refine wpList_nil ?_
            replace HO := hid (HO.out.grow hb)
            replace HG := hid (Grow.trans HG.out hb)
            clear hb
            go_wp2_with (refine op_alloc rfl rfl ?_)
            intro g10 w5 hgl _ hb hr
            have HNE := hid (own_ne HO.out hgl)
            have HGL := hid (Nat.le_trans HG.out.size hgl)
            replace HO := hid (HO.out.grow hb)
            replace HG := hid (Grow.trans HG.out hb)
            have HR := hid hr
            clear hgl hb hr
            try simp only [Act.put, List.setIfInBounds_toArray, List.set_cons_zero, List.set_cons_succ]
            go_wp2_with fail
            refine wp_region_pick [0, 1, 3, 4] [2, 5, 6] rfl (by kernel_rfl) rfl (by kernel_rfl) ?_
            (refine' pick_val (by rfl) ?pw165 ?pr165 ?pq165 ?ph165; (case' pw165 => rfl); (case' pq165 => (exact fun _ _ _ h => h)); (case' pr165 => (intro w'; go_simp; with_reducible rfl)); (case' ph165 => (try simp only [List.getElem_toArray, List.getElem_cons_zero, List.getElem_cons_succ, Act.put, List.setIfInBounds_toArray, List.set_cons_zero, List.set_cons_succ]))); (refine' pick_val (by rfl) ?pw166 ?pr166 ?pq166 ?ph166; (case' pw166 => rfl); (case' pq166 => (exact fun _ _ _ h => h)); (case' pr166 => (intro w'; go_simp; with_reducible rfl)); (case' ph166 => (try simp only [List.getElem_toArray, List.getElem_cons_zero, List.getElem_cons_succ, Act.put, List.setIfInBounds_toArray, List.set_cons_zero, List.set_cons_succ]))); (refine' pick_val (by rfl) ?pw167 ?pr167 ?pq167 ?ph167; (case' pw167 => rfl); (case' pq167 => (exact fun _ _ _ h => h)); (case' pr167 => (intro w'; go_simp; with_reducible rfl)); (case' ph167 => (try simp only [List.getElem_toArray, List.getElem_cons_zero, List.getElem_cons_succ, Act.put, List.setIfInBounds_toArray, List.set_cons_zero, List.set_cons_succ]))); (refine' pick_val (by rfl) ?pw168 ?pr168 ?pq168 ?ph168; (case' pw168 => rfl); (case' pq168 => (exact fun _ _ _ h => h)); (case' pr168 => (intro w'; go_simp; with_reducible rfl)); (case' ph168 => (try simp only [List.getElem_toArray, List.getElem_cons_zero, List.getElem_cons_succ, Act.put, List.setIfInBounds_toArray, List.set_cons_zero, List.set_cons_succ])))
            (refine pick_nil ?_; show wpList _ _ _ (_ :: _ :: _ :: []) _ _)
            have hb := grow_drawn w5
            generalize ({ w5 with drawn := w5.drawn + 1 } : World) = w6 at *
            replace HO := hid (HO.out.grow hb)
            replace HG := hid (Grow.trans HG.out hb)
            replace HR := hid (grow_block HR.out hb)
            clear hb
            go_wp2_with (first | (refine op_loadAt (l := x) rfl rfl rfl (fun j v hv => grow_cell (HCx.out j v hv) HG.out) Hx32.out ?_) | (refine op_storeId (l := x) rfl rfl rfl rfl rfl HR.out (by rfl) Hx32.out ?_))
            intro w7 hz hgz hbz
            replace HO := hid (own_store HO.out hgz HNE.out)
            replace HG := hid (hbz _ _ HG.out HGL.out)
            clear HR
            have HR := hid hz
            clear hz hgz hbz
            go_wp2_with (refine op_callFn (f := f) (cap := #[]) (u1 := .bool true) (u2 := .bool false) (v := .bool (cnt true false)) rfl rfl rfl rfl rfl HE.out (HF.out true false _) ?_)
            intro w8 hb
            replace HO := hid (HO.out.grow hb)
            replace HG := hid (Grow.trans HG.out hb)
            replace HR := hid (grow_block HR.out hb)
            clear hb
            have HN2 := hid (show a.length + (y :: b).length ≤ m by have := HN.out; simp at this ⊢; omega)
            cases hcnt : cnt true false with
            | true =>
              have HCNT := hid hcnt
              clear hcnt
              have HM2 := hid (show (o ++ [x]) ++ mergeN cnt m a (y :: b) = mergeN cnt (xs.length + ys.length) xs ys by rw [← HM.out, mergeN, if_neg (by rw [HYX.out]; simp), if_pos HXY.out, HCNT.out]; simp)
              have HMX2 := hid (show (o ++ [x]).length + (a.length + (y :: b).length) ≤ 1000000 by have := HMX.out; simp at this ⊢; omega)
              have hol : o.length ≤ 1000000 := by have := HMX.out; omega
              go_wp2_with (first | (refine op_loadId rfl rfl rfl HR.out Hx32.out ?_) | (refine op_appIds1 (w0 := w) (l1 := x) rfl rfl rfl rfl rfl rfl (fun _ => rfl) (fun _ => rfl) Hx32.out HO.out HG.out HG.out.size (by omega) ?_))
              intro u10 v10 w9 ho hb hs
              clear HO HG
              have HO := hid ho
              have HG := hid hb
              clear ho hb hs hol
              go_wp2
              go_roundg (m + 1)
              case rel => exact ⟨m, a, (y :: b), some (tailA ad ca'), some bd, ca' - 1, cb', o ++ [x], rfl, HN2, by first | rfl | simp, by first | rfl | simp, HM2, HXt, HY, H1t, H2, HC1t, HC2, HMX2, HO, HG⟩
              case measure => omega
            | false =>
              have HCNT := hid hcnt
              clear hcnt
              have HM2 := hid (show o ++ mergeN cnt m a (y :: b) = mergeN cnt (xs.length + ys.length) xs ys by rw [← HM.out, mergeN, if_neg (by rw [HYX.out]; simp), if_pos HXY.out, HCNT.out]; simp)
              have HMX2 := hid (show o.length + (a.length + (y :: b).length) ≤ 1000000 by have := HMX.out; simp at this ⊢; omega)
              go_wp2
              go_roundg (m + 1)
              case rel => exact ⟨m, a, (y :: b), some (tailA ad ca'), some bd, ca' - 1, cb', o, rfl, HN2, by first | rfl | simp, by first | rfl | simp, HM2, HXt, HY, H1t, H2, HC1t, HC2, HMX2, HO, HG⟩
              case measure => omega
          | false =>
            have HYX := hid hyx
            have HXY := hid hxy
            go_wp2_with fail
            (refine' wp_region_head 19 0 [_, _, _, _, _, _, _, _, _, _, _, _, _, _, _, _, _, _, _] rfl (by kernel_rfl) (by kernel_rfl) ?hreg169; case' hreg169 => simp only [List.take_succ_cons, List.take_zero, List.zip_cons_cons, List.zip_nil_right, List.drop_succ_cons, List.drop_zero, List.drop_nil])
            (refine' head_val ?dw170 ?de170 ?dr170 ?dh170; (case' dw170 => rfl); (case' de170 => (first | exact fun _ _ _ => trivial | (intro t ht w; cases ht; simp [upE]))); (case' dr170 => (intro w' hw' _; go_simp; with_reducible rfl)); (case' dh170 => (try simp only [Act.put, List.setIfInBounds_toArray, List.set_cons_zero, List.set_cons_succ]))); (refine' head_val ?dw171 ?de171 ?dr171 ?dh171; (case' dw171 => rfl); (case' de171 => (first | exact fun _ _ _ => trivial | (intro t ht w; cases ht; simp [upE]))); (case' dr171 => (intro w' hw' _; go_simp; with_reducible rfl)); (case' dh171 => (try simp only [Act.put, List.setIfInBounds_toArray, List.set_cons_zero, List.set_cons_succ]))); (refine' head_val ?dw172 ?de172 ?dr172 ?dh172; (case' dw172 => rfl); (case' de172 => (first | exact fun _ _ _ => trivial | (intro t ht w; cases ht; simp [upE]))); (case' dr172 => (intro w' hw' _; go_simp; with_reducible rfl)); (case' dh172 => (try simp only [Act.put, List.setIfInBounds_toArray, List.set_cons_zero, List.set_cons_succ]))); (refine' head_val ?dw173 ?de173 ?dr173 ?dh173; (case' dw173 => rfl); (case' de173 => (first | exact fun _ _ _ => trivial | (intro t ht w; cases ht; simp [upE]))); (case' dr173 => (intro w' hw' _; go_simp; with_reducible rfl)); (case' dh173 => (try simp only [Act.put, List.setIfInBounds_toArray, List.set_cons_zero, List.set_cons_succ]))); (refine' head_val ?dw174 ?de174 ?dr174 ?dh174; (case' dw174 => rfl); (case' de174 => (first | exact fun _ _ _ => trivial | (intro t ht w; cases ht; simp [upE]))); (case' dr174 => (intro w' hw' _; go_simp; with_reducible rfl)); (case' dh174 => (try simp only [Act.put, List.setIfInBounds_toArray, List.set_cons_zero, List.set_cons_succ]))); (refine' head_val ?dw175 ?de175 ?dr175 ?dh175; (case' dw175 => rfl); (case' de175 => (first | exact fun _ _ _ => trivial | (intro t ht w; cases ht; simp [upE]))); (case' dr175 => (intro w' hw' _; go_simp; with_reducible rfl)); (case' dh175 => (try simp only [Act.put, List.setIfInBounds_toArray, List.set_cons_zero, List.set_cons_succ]))); (refine' head_val ?dw176 ?de176 ?dr176 ?dh176; (case' dw176 => rfl); (case' de176 => (first | exact fun _ _ _ => trivial | (intro t ht w; cases ht; simp [upE]))); (case' dr176 => (intro w' hw' _; go_simp; with_reducible rfl)); (case' dh176 => (try simp only [Act.put, List.setIfInBounds_toArray, List.set_cons_zero, List.set_cons_succ]))); (refine' head_val ?dw177 ?de177 ?dr177 ?dh177; (case' dw177 => rfl); (case' de177 => (first | exact fun _ _ _ => trivial | (intro t ht w; cases ht; simp [upE]))); (case' dr177 => (intro w' hw' _; go_simp; with_reducible rfl)); (case' dh177 => (try simp only [Act.put, List.setIfInBounds_toArray, List.set_cons_zero, List.set_cons_succ]))); (refine' head_val ?dw178 ?de178 ?dr178 ?dh178; (case' dw178 => rfl); (case' de178 => (first | exact fun _ _ _ => trivial | (intro t ht w; cases ht; simp [upE]))); (case' dr178 => (intro w' hw' _; go_simp; with_reducible rfl)); (case' dh178 => (try simp only [Act.put, List.setIfInBounds_toArray, List.set_cons_zero, List.set_cons_succ]))); (refine' head_val ?dw179 ?de179 ?dr179 ?dh179; (case' dw179 => rfl); (case' de179 => (first | exact fun _ _ _ => trivial | (intro t ht w; cases ht; simp [upE]))); (case' dr179 => (intro w' hw' _; go_simp; with_reducible rfl)); (case' dh179 => (try simp only [Act.put, List.setIfInBounds_toArray, List.set_cons_zero, List.set_cons_succ])))
            (refine' head_loadAt (x := _) rfl ?_ rfl rfl (fun j v hv => grow_cell (HCy.out j v hv) HG.out) (Hy32.out) ?_; (first | exact fun _ _ _ => trivial | (intro t ht w; cases ht; simp [upE])); try simp only [Act.put, List.setIfInBounds_toArray, List.set_cons_zero, List.set_cons_succ])
            (refine' head_val ?dw180 ?de180 ?dr180 ?dh180; (case' dw180 => rfl); (case' de180 => (first | exact fun _ _ _ => trivial | (intro t ht w; cases ht; simp [upE]))); (case' dr180 => (intro w' hw' _; go_simp; with_reducible rfl)); (case' dh180 => (try simp only [Act.put, List.setIfInBounds_toArray, List.set_cons_zero, List.set_cons_succ]))); (refine' head_val ?dw181 ?de181 ?dr181 ?dh181; (case' dw181 => rfl); (case' de181 => (first | exact fun _ _ _ => trivial | (intro t ht w; cases ht; simp [upE]))); (case' dr181 => (intro w' hw' _; go_simp; with_reducible rfl)); (case' dh181 => (try simp only [Act.put, List.setIfInBounds_toArray, List.set_cons_zero, List.set_cons_succ])))
            (refine' head_loadAt (x := _) rfl ?_ rfl rfl (fun j v hv => grow_cell (HCx.out j v hv) HG.out) (Hx32.out) ?_; (first | exact fun _ _ _ => trivial | (intro t ht w; cases ht; simp [upE])); try simp only [Act.put, List.setIfInBounds_toArray, List.set_cons_zero, List.set_cons_succ])
            (refine' head_call ?cw182 ?ce182 ?cr182 ?cc182 ?ch182; (case' cw182 => rfl); (case' ce182 => (first | exact fun _ _ _ => trivial | (intro t ht w; cases ht; simp [upE]))); (case' cr182 => (intro w'; go_simp; first | exact ⟨rfl, rfl⟩ | with_reducible rfl)); (case' cc182 => (intro w' hw' _; exact idLess y x Hy32.out Hx32.out w')); (case' ch182 => (try simp only [Act.put, List.setIfInBounds_toArray, List.set_cons_zero, List.set_cons_succ])))
            (refine' head_val ?dw183 ?de183 ?dr183 ?dh183; (case' dw183 => rfl); (case' de183 => (first | exact fun _ _ _ => trivial | (intro t ht w; cases ht; simp [upE]))); (case' dr183 => (intro w' hw' _; go_simp; with_reducible rfl)); (case' dh183 => (try simp only [Act.put, List.setIfInBounds_toArray, List.set_cons_zero, List.set_cons_succ]))); (refine' head_val ?dw184 ?de184 ?dr184 ?dh184; (case' dw184 => rfl); (case' de184 => (first | exact fun _ _ _ => trivial | (intro t ht w; cases ht; simp [upE]))); (case' dr184 => (intro w' hw' _; go_simp; with_reducible rfl)); (case' dh184 => (try simp only [Act.put, List.setIfInBounds_toArray, List.set_cons_zero, List.set_cons_succ]))); (refine' head_val ?dw185 ?de185 ?dr185 ?dh185; (case' dw185 => rfl); (case' de185 => (first | exact fun _ _ _ => trivial | (intro t ht w; cases ht; simp [upE]))); (case' dr185 => (intro w' hw' _; go_simp; with_reducible rfl)); (case' dh185 => (try simp only [Act.put, List.setIfInBounds_toArray, List.set_cons_zero, List.set_cons_succ]))); (refine' head_val ?dw186 ?de186 ?dr186 ?dh186; (case' dw186 => rfl); (case' de186 => (first | exact fun _ _ _ => trivial | (intro t ht w; cases ht; simp [upE]))); (case' dr186 => (intro w' hw' _; go_simp; with_reducible rfl)); (case' dh186 => (try simp only [Act.put, List.setIfInBounds_toArray, List.set_cons_zero, List.set_cons_succ])))
            refine head_nil ?_
            intro w3 hb _
            refine wpList_nil ?_
            replace HO := hid (HO.out.grow hb)
            replace HG := hid (Grow.trans HG.out hb)
            clear hb
            go_wp2_with fail
            (refine' wp_region_head 19 0 [_, _, _, _, _, _, _, _, _, _, _, _, _, _, _, _, _, _, _] rfl (by kernel_rfl) (by kernel_rfl) ?hreg187; case' hreg187 => simp only [List.take_succ_cons, List.take_zero, List.zip_cons_cons, List.zip_nil_right, List.drop_succ_cons, List.drop_zero, List.drop_nil])
            (refine' head_val ?dw188 ?de188 ?dr188 ?dh188; (case' dw188 => rfl); (case' de188 => (first | exact fun _ _ _ => trivial | (intro t ht w; cases ht; simp [upE]))); (case' dr188 => (intro w' hw' _; go_simp; with_reducible rfl)); (case' dh188 => (try simp only [Act.put, List.setIfInBounds_toArray, List.set_cons_zero, List.set_cons_succ]))); (refine' head_val ?dw189 ?de189 ?dr189 ?dh189; (case' dw189 => rfl); (case' de189 => (first | exact fun _ _ _ => trivial | (intro t ht w; cases ht; simp [upE]))); (case' dr189 => (intro w' hw' _; go_simp; with_reducible rfl)); (case' dh189 => (try simp only [Act.put, List.setIfInBounds_toArray, List.set_cons_zero, List.set_cons_succ]))); (refine' head_val ?dw190 ?de190 ?dr190 ?dh190; (case' dw190 => rfl); (case' de190 => (first | exact fun _ _ _ => trivial | (intro t ht w; cases ht; simp [upE]))); (case' dr190 => (intro w' hw' _; go_simp; with_reducible rfl)); (case' dh190 => (try simp only [Act.put, List.setIfInBounds_toArray, List.set_cons_zero, List.set_cons_succ]))); (refine' head_val ?dw191 ?de191 ?dr191 ?dh191; (case' dw191 => rfl); (case' de191 => (first | exact fun _ _ _ => trivial | (intro t ht w; cases ht; simp [upE]))); (case' dr191 => (intro w' hw' _; go_simp; with_reducible rfl)); (case' dh191 => (try simp only [Act.put, List.setIfInBounds_toArray, List.set_cons_zero, List.set_cons_succ]))); (refine' head_val ?dw192 ?de192 ?dr192 ?dh192; (case' dw192 => rfl); (case' de192 => (first | exact fun _ _ _ => trivial | (intro t ht w; cases ht; simp [upE]))); (case' dr192 => (intro w' hw' _; go_simp; with_reducible rfl)); (case' dh192 => (try simp only [Act.put, List.setIfInBounds_toArray, List.set_cons_zero, List.set_cons_succ]))); (refine' head_val ?dw193 ?de193 ?dr193 ?dh193; (case' dw193 => rfl); (case' de193 => (first | exact fun _ _ _ => trivial | (intro t ht w; cases ht; simp [upE]))); (case' dr193 => (intro w' hw' _; go_simp; with_reducible rfl)); (case' dh193 => (try simp only [Act.put, List.setIfInBounds_toArray, List.set_cons_zero, List.set_cons_succ]))); (refine' head_val ?dw194 ?de194 ?dr194 ?dh194; (case' dw194 => rfl); (case' de194 => (first | exact fun _ _ _ => trivial | (intro t ht w; cases ht; simp [upE]))); (case' dr194 => (intro w' hw' _; go_simp; with_reducible rfl)); (case' dh194 => (try simp only [Act.put, List.setIfInBounds_toArray, List.set_cons_zero, List.set_cons_succ]))); (refine' head_val ?dw195 ?de195 ?dr195 ?dh195; (case' dw195 => rfl); (case' de195 => (first | exact fun _ _ _ => trivial | (intro t ht w; cases ht; simp [upE]))); (case' dr195 => (intro w' hw' _; go_simp; with_reducible rfl)); (case' dh195 => (try simp only [Act.put, List.setIfInBounds_toArray, List.set_cons_zero, List.set_cons_succ]))); (refine' head_val ?dw196 ?de196 ?dr196 ?dh196; (case' dw196 => rfl); (case' de196 => (first | exact fun _ _ _ => trivial | (intro t ht w; cases ht; simp [upE]))); (case' dr196 => (intro w' hw' _; go_simp; with_reducible rfl)); (case' dh196 => (try simp only [Act.put, List.setIfInBounds_toArray, List.set_cons_zero, List.set_cons_succ]))); (refine' head_val ?dw197 ?de197 ?dr197 ?dh197; (case' dw197 => rfl); (case' de197 => (first | exact fun _ _ _ => trivial | (intro t ht w; cases ht; simp [upE]))); (case' dr197 => (intro w' hw' _; go_simp; with_reducible rfl)); (case' dh197 => (try simp only [Act.put, List.setIfInBounds_toArray, List.set_cons_zero, List.set_cons_succ])))
            (refine' head_loadAt (x := _) rfl ?_ rfl rfl (fun j v hv => grow_cell (HCx.out j v hv) HG.out) (Hx32.out) ?_; (first | exact fun _ _ _ => trivial | (intro t ht w; cases ht; simp [upE])); try simp only [Act.put, List.setIfInBounds_toArray, List.set_cons_zero, List.set_cons_succ])
            (refine' head_val ?dw198 ?de198 ?dr198 ?dh198; (case' dw198 => rfl); (case' de198 => (first | exact fun _ _ _ => trivial | (intro t ht w; cases ht; simp [upE]))); (case' dr198 => (intro w' hw' _; go_simp; with_reducible rfl)); (case' dh198 => (try simp only [Act.put, List.setIfInBounds_toArray, List.set_cons_zero, List.set_cons_succ]))); (refine' head_val ?dw199 ?de199 ?dr199 ?dh199; (case' dw199 => rfl); (case' de199 => (first | exact fun _ _ _ => trivial | (intro t ht w; cases ht; simp [upE]))); (case' dr199 => (intro w' hw' _; go_simp; with_reducible rfl)); (case' dh199 => (try simp only [Act.put, List.setIfInBounds_toArray, List.set_cons_zero, List.set_cons_succ])))
            (refine' head_loadAt (x := _) rfl ?_ rfl rfl (fun j v hv => grow_cell (HCy.out j v hv) HG.out) (Hy32.out) ?_; (first | exact fun _ _ _ => trivial | (intro t ht w; cases ht; simp [upE])); try simp only [Act.put, List.setIfInBounds_toArray, List.set_cons_zero, List.set_cons_succ])
            (refine' head_call ?cw200 ?ce200 ?cr200 ?cc200 ?ch200; (case' cw200 => rfl); (case' ce200 => (first | exact fun _ _ _ => trivial | (intro t ht w; cases ht; simp [upE]))); (case' cr200 => (intro w'; go_simp; first | exact ⟨rfl, rfl⟩ | with_reducible rfl)); (case' cc200 => (intro w' hw' _; exact idLess x y Hx32.out Hy32.out w')); (case' ch200 => (try simp only [Act.put, List.setIfInBounds_toArray, List.set_cons_zero, List.set_cons_succ])))
            (refine' head_val ?dw201 ?de201 ?dr201 ?dh201; (case' dw201 => rfl); (case' de201 => (first | exact fun _ _ _ => trivial | (intro t ht w; cases ht; simp [upE]))); (case' dr201 => (intro w' hw' _; go_simp; with_reducible rfl)); (case' dh201 => (try simp only [Act.put, List.setIfInBounds_toArray, List.set_cons_zero, List.set_cons_succ]))); (refine' head_val ?dw202 ?de202 ?dr202 ?dh202; (case' dw202 => rfl); (case' de202 => (first | exact fun _ _ _ => trivial | (intro t ht w; cases ht; simp [upE]))); (case' dr202 => (intro w' hw' _; go_simp; with_reducible rfl)); (case' dh202 => (try simp only [Act.put, List.setIfInBounds_toArray, List.set_cons_zero, List.set_cons_succ]))); (refine' head_val ?dw203 ?de203 ?dr203 ?dh203; (case' dw203 => rfl); (case' de203 => (first | exact fun _ _ _ => trivial | (intro t ht w; cases ht; simp [upE]))); (case' dr203 => (intro w' hw' _; go_simp; with_reducible rfl)); (case' dh203 => (try simp only [Act.put, List.setIfInBounds_toArray, List.set_cons_zero, List.set_cons_succ]))); (refine' head_val ?dw204 ?de204 ?dr204 ?dh204; (case' dw204 => rfl); (case' de204 => (first | exact fun _ _ _ => trivial | (intro t ht w; cases ht; simp [upE]))); (case' dr204 => (intro w' hw' _; go_simp; with_reducible rfl)); (case' dh204 => (try simp only [Act.put, List.setIfInBounds_toArray, List.set_cons_zero, List.set_cons_succ])))
            clear hyx hxy
            refine head_nil ?_
            intro w4 hb _
            refine wpList_nil ?_
            replace HO := hid (HO.out.grow hb)
            replace HG := hid (Grow.trans HG.out hb)
            clear hb
            go_wp2_with (refine op_alloc rfl rfl ?_)
            intro g10 w5 hgl _ hb hr
            have HNE := hid (own_ne HO.out hgl)
            have HGL := hid (Nat.le_trans HG.out.size hgl)
            replace HO := hid (HO.out.grow hb)
            replace HG := hid (Grow.trans HG.out hb)
            have HR := hid hr
            clear hgl hb hr
            try simp only [Act.put, List.setIfInBounds_toArray, List.set_cons_zero, List.set_cons_succ]
            go_wp2_with fail
            refine wp_region_pick [0, 1, 3, 4] [2, 5, 6] rfl (by kernel_rfl) rfl (by kernel_rfl) ?_
            (refine' pick_val (by rfl) ?pw205 ?pr205 ?pq205 ?ph205; (case' pw205 => rfl); (case' pq205 => (exact fun _ _ _ h => h)); (case' pr205 => (intro w'; go_simp; with_reducible rfl)); (case' ph205 => (try simp only [List.getElem_toArray, List.getElem_cons_zero, List.getElem_cons_succ, Act.put, List.setIfInBounds_toArray, List.set_cons_zero, List.set_cons_succ]))); (refine' pick_val (by rfl) ?pw206 ?pr206 ?pq206 ?ph206; (case' pw206 => rfl); (case' pq206 => (exact fun _ _ _ h => h)); (case' pr206 => (intro w'; go_simp; with_reducible rfl)); (case' ph206 => (try simp only [List.getElem_toArray, List.getElem_cons_zero, List.getElem_cons_succ, Act.put, List.setIfInBounds_toArray, List.set_cons_zero, List.set_cons_succ]))); (refine' pick_val (by rfl) ?pw207 ?pr207 ?pq207 ?ph207; (case' pw207 => rfl); (case' pq207 => (exact fun _ _ _ h => h)); (case' pr207 => (intro w'; go_simp; with_reducible rfl)); (case' ph207 => (try simp only [List.getElem_toArray, List.getElem_cons_zero, List.getElem_cons_succ, Act.put, List.setIfInBounds_toArray, List.set_cons_zero, List.set_cons_succ]))); (refine' pick_val (by rfl) ?pw208 ?pr208 ?pq208 ?ph208; (case' pw208 => rfl); (case' pq208 => (exact fun _ _ _ h => h)); (case' pr208 => (intro w'; go_simp; with_reducible rfl)); (case' ph208 => (try simp only [List.getElem_toArray, List.getElem_cons_zero, List.getElem_cons_succ, Act.put, List.setIfInBounds_toArray, List.set_cons_zero, List.set_cons_succ])))
            (refine pick_nil ?_; show wpList _ _ _ (_ :: _ :: _ :: []) _ _)
            have hb := grow_drawn w5
            generalize ({ w5 with drawn := w5.drawn + 1 } : World) = w6 at *
            replace HO := hid (HO.out.grow hb)
            replace HG := hid (Grow.trans HG.out hb)
            replace HR := hid (grow_block HR.out hb)
            clear hb
            go_wp2_with (first | (refine op_loadAt (l := y) rfl rfl rfl (fun j v hv => grow_cell (HCy.out j v hv) HG.out) Hy32.out ?_) | (refine op_storeId (l := y) rfl rfl rfl rfl rfl HR.out (by rfl) Hy32.out ?_))
            intro w7 hz hgz hbz
            replace HO := hid (own_store HO.out hgz HNE.out)
            replace HG := hid (hbz _ _ HG.out HGL.out)
            clear HR
            have HR := hid hz
            clear hz hgz hbz
            go_wp2_with fail
            refine wp_region_pick [0, 1, 3, 4] [2, 5, 6] rfl (by kernel_rfl) rfl (by kernel_rfl) ?_
            (refine' pick_val (by rfl) ?pw209 ?pr209 ?pq209 ?ph209; (case' pw209 => rfl); (case' pq209 => (exact fun _ _ _ h => h)); (case' pr209 => (intro w'; go_simp; with_reducible rfl)); (case' ph209 => (try simp only [List.getElem_toArray, List.getElem_cons_zero, List.getElem_cons_succ, Act.put, List.setIfInBounds_toArray, List.set_cons_zero, List.set_cons_succ]))); (refine' pick_val (by rfl) ?pw210 ?pr210 ?pq210 ?ph210; (case' pw210 => rfl); (case' pq210 => (exact fun _ _ _ h => h)); (case' pr210 => (intro w'; go_simp; with_reducible rfl)); (case' ph210 => (try simp only [List.getElem_toArray, List.getElem_cons_zero, List.getElem_cons_succ, Act.put, List.setIfInBounds_toArray, List.set_cons_zero, List.set_cons_succ]))); (refine' pick_val (by rfl) ?pw211 ?pr211 ?pq211 ?ph211; (case' pw211 => rfl); (case' pq211 => (exact fun _ _ _ h => h)); (case' pr211 => (intro w'; go_simp; with_reducible rfl)); (case' ph211 => (try simp only [List.getElem_toArray, List.getElem_cons_zero, List.getElem_cons_succ, Act.put, List.setIfInBounds_toArray, List.set_cons_zero, List.set_cons_succ]))); (refine' pick_val (by rfl) ?pw212 ?pr212 ?pq212 ?ph212; (case' pw212 => rfl); (case' pq212 => (exact fun _ _ _ h => h)); (case' pr212 => (intro w'; go_simp; with_reducible rfl)); (case' ph212 => (try simp only [List.getElem_toArray, List.getElem_cons_zero, List.getElem_cons_succ, Act.put, List.setIfInBounds_toArray, List.set_cons_zero, List.set_cons_succ])))
            (refine pick_nil ?_; show wpList _ _ _ (_ :: _ :: _ :: []) _ _)
            have hb := grow_drawn w7
            generalize ({ w7 with drawn := w7.drawn + 1 } : World) = w8 at *
            replace HO := hid (HO.out.grow hb)
            replace HG := hid (Grow.trans HG.out hb)
            replace HR := hid (grow_block HR.out hb)
            clear hb
            go_wp2_with (first | (refine op_loadAt (l := x) rfl rfl rfl (fun j v hv => grow_cell (HCx.out j v hv) HG.out) Hx32.out ?_) | (refine op_storeId (l := x) rfl rfl rfl rfl rfl HR.out Hy32.out Hx32.out ?_))
            intro w9 hz hgz hbz
            replace HO := hid (own_store HO.out hgz HNE.out)
            replace HG := hid (hbz _ _ HG.out HGL.out)
            clear HR
            have HR := hid hz
            clear hz hgz hbz
            go_wp2_with (refine op_callFn (f := f) (cap := #[]) (u1 := .bool true) (u2 := .bool true) (v := .bool (cnt true true)) rfl rfl rfl rfl rfl HE.out (HF.out true true _) ?_)
            intro w10 hb
            replace HO := hid (HO.out.grow hb)
            replace HG := hid (Grow.trans HG.out hb)
            replace HR := hid (grow_block HR.out hb)
            clear hb
            have HN2 := hid (show a.length + b.length ≤ m by have := HN.out; simp at this ⊢; omega)
            cases hcnt : cnt true true with
            | true =>
              have HCNT := hid hcnt
              clear hcnt
              have HM2 := hid (show (o ++ [x]) ++ mergeN cnt m a b = mergeN cnt (xs.length + ys.length) xs ys by rw [← HM.out, mergeN, if_neg (by rw [HYX.out]; simp), if_neg (by rw [HXY.out]; simp), HCNT.out]; simp)
              have HMX2 := hid (show (o ++ [x]).length + (a.length + b.length) ≤ 1000000 by have := HMX.out; simp at this ⊢; omega)
              have hol : o.length ≤ 1000000 := by have := HMX.out; omega
              go_wp2_with (first | (refine op_loadId rfl rfl rfl HR.out Hx32.out ?_) | (refine op_appIds1 (w0 := w) (l1 := x) rfl rfl rfl rfl rfl rfl (fun _ => rfl) (fun _ => rfl) Hx32.out HO.out HG.out HG.out.size (by omega) ?_))
              intro u10 v10 w11 ho hb hs
              clear HO HG
              have HO := hid ho
              have HG := hid hb
              clear ho hb hs hol
              go_wp2
              go_roundg (m + 1)
              case rel => exact ⟨m, a, b, some (tailA ad ca'), some (tailA bd cb'), ca' - 1, cb' - 1, o ++ [x], rfl, HN2, by first | rfl | simp, by first | rfl | simp, HM2, HXt, HYt, H1t, H2t, HC1t, HC2t, HMX2, HO, HG⟩
              case measure => omega
            | false =>
              have HCNT := hid hcnt
              clear hcnt
              have HM2 := hid (show o ++ mergeN cnt m a b = mergeN cnt (xs.length + ys.length) xs ys by rw [← HM.out, mergeN, if_neg (by rw [HYX.out]; simp), if_neg (by rw [HXY.out]; simp), HCNT.out]; simp)
              have HMX2 := hid (show o.length + (a.length + b.length) ≤ 1000000 by have := HMX.out; simp at this ⊢; omega)
              go_wp2
              go_roundg (m + 1)
              case rel => exact ⟨m, a, b, some (tailA ad ca'), some (tailA bd cb'), ca' - 1, cb' - 1, o, rfl, HN2, by first | rfl | simp, by first | rfl | simp, HM2, HXt, HYt, H1t, H2t, HC1t, HC2t, HMX2, HO, HG⟩
              case measure => omega
end Go.Proofs.Ytffgifegaagndaa
end
section
/- The references for rows of ids: Has, Put, Sort, Only. -/
namespace Go.Qk
open Go.RowKit
/-- A slice value that reads as ids, with room for them. -/
def IdSlC (w : World) (v : Value) (xs : List (List UInt8)) : Prop := (∃ A c, v = .slice A xs.length c ∧ xs.length ≤ c ∧ IdRow w A xs) ∧ ∀ s ∈ xs, s.length = 32
theorem IdSlC.grow {w w1 : World} {v : Value} {xs : List (List UInt8)} (h : IdSlC w v xs) (hg : Grow w w1) : IdSlC w1 v xs := by
  obtain ⟨⟨A, c, e, h0, h1⟩, h2⟩ := h
  exact ⟨⟨A, c, e, h0, h1.grow hg⟩, h2⟩
theorem OwnIds.slc {e : TypeId} {B : Nat} {w : World} {v : Value} {xs : List (List UInt8)} (h : OwnIds e B w v xs) : IdSlC w v xs := by
  obtain ⟨⟨A, c, hv, hr⟩, h32⟩ := h.sl
  refine ⟨⟨A, c, hv, ?_, hr⟩, h32⟩
  rcases h.1.2 with ⟨rfl, h0⟩ | ⟨g, cap, cur, rfl, _, _, hc, _⟩
  · injection hv with _ h1 h2
    omega
  · injection hv with _ h1 h2
    omega
/-- A row with one more, before the first that is above it. -/
def ins (a : List UInt8) : List (List UInt8) → List (List UInt8)
  | [] => [a]
  | y :: l => if lexLess a y then a :: y :: l else y :: ins a l
def hasL (l : List (List UInt8)) (a : List UInt8) : Bool := l.contains a
def putL (l : List (List UInt8)) (a : List UInt8) : List (List UInt8) := if l.contains a then l else ins a l
def sortL (l : List (List UInt8)) : List (List UInt8) := l.foldl putL []
theorem ins_length (a : List UInt8) : ∀ l, (ins a l).length = l.length + 1
  | [] => rfl
  | y :: l => by
    unfold ins
    split
    · rfl
    · rw [List.length_cons, ins_length a l, List.length_cons]
theorem ins_mem (a : List UInt8) : ∀ (l : List (List UInt8)) (s : List UInt8), s ∈ ins a l → s = a ∨ s ∈ l
  | [], s, h => by simp [ins] at h; exact .inl h
  | y :: l, s, h => by
    unfold ins at h
    split at h
    · simpa using h
    · rcases List.mem_cons.1 h with h | h
      · exact .inr (h ▸ List.mem_cons_self)
      · rcases ins_mem a l s h with h | h
        · exact .inl h
        · exact .inr (List.mem_cons_of_mem _ h)
theorem putL_32 {l : List (List UInt8)} {a : List UInt8} (hl : ∀ s ∈ l, s.length = 32) (ha : a.length = 32) : ∀ s ∈ putL l a, s.length = 32 := by
  intro s hs
  unfold putL at hs
  split at hs
  · exact hl s hs
  · rcases ins_mem a l s hs with h | h
    · rw [h, ha]
    · exact hl s h
theorem putL_length (l : List (List UInt8)) (a : List UInt8) : (putL l a).length ≤ l.length + 1 := by
  unfold putL
  split
  · omega
  · rw [ins_length]; omega
theorem sortTo_32 (l : List (List UInt8)) (hl : ∀ s ∈ l, s.length = 32) (k : Nat) : ∀ s ∈ sortL (l.take k), s.length = 32 := by
  have gen : ∀ (m acc : List (List UInt8)), (∀ s ∈ m, s.length = 32) → (∀ s ∈ acc, s.length = 32) → ∀ s ∈ m.foldl putL acc, s.length = 32 := by
    intro m
    induction m with
    | nil => intro acc _ h; exact h
    | cons a m ih =>
      intro acc h1 h2
      exact ih _ (fun s hs => h1 s (List.mem_cons_of_mem _ hs)) (putL_32 h2 (h1 a List.mem_cons_self))
  exact gen _ [] (fun s hs => hl s (List.mem_of_mem_take hs)) (fun s hs => by cases hs)
theorem sortL_length (l : List (List UInt8)) : (sortL l).length ≤ l.length := by
  have gen : ∀ (m acc : List (List UInt8)), (m.foldl putL acc).length ≤ acc.length + m.length := by
    intro m
    induction m with
    | nil => intro acc; simp
    | cons a m ih =>
      intro acc
      have h1 := ih (putL acc a)
      have h2 := putL_length acc a
      simp only [List.foldl_cons, List.length_cons]
      omega
  have := gen l []
  simpa [sortL] using this
theorem sortTo_succ (l : List (List UInt8)) (k : Nat) (h : k < l.length) : sortL (l.take (k + 1)) = putL (sortL (l.take k)) (l.getD k []) := by
  unfold sortL
  rw [List.take_succ_eq_append_getElem h, List.foldl_append]
  simp [h]
end Go.Qk
namespace Go.Proofs.Ytffgifegaagndaa
open Go.RowKit
open Go.Qk hiding rotr b4
set_option maxHeartbeats 1000000
set_option maxRecDepth 100000
def RetSl (w : World) (xs : List (List UInt8)) (e : Ending) (w' : World) : Prop := ∃ v, e = .returned v ∧ IdSlC w' v xs ∧ Below w.heap.size w w'
theorem empty_own (w : World) (B : Nat) (hB : B ≤ w.heap.size) : OwnIds 23 B (w.alloc (.cells #[] 23)) (.slice (some ⟨w.heap.size, 0, none⟩) 0 0) [] :=
  ⟨⟨rfl, .inr ⟨w.heap.size, 0, #[], rfl, hB, heap_alloc_new _ _, Nat.le_refl _, by simp [maxLen], rfl, rfl⟩⟩, fun _ h => by cases h⟩
theorem contains_take (l : List (List UInt8)) (a : List UInt8) (k : Nat) (h : k < l.length) : (l.take (k + 1)).contains a = ((l.take k).contains a || (l.getD k [] == a)) := by
  rw [List.take_succ_eq_append_getElem h]
  have e : l.getD k [] = l[k] := by simp [h]
  rw [e, Bool.eq_iff_iff, List.contains_iff_mem, List.mem_append, Bool.or_eq_true, List.contains_iff_mem, List.mem_singleton, beq_iff_eq]
  exact ⟨fun h => h.imp id Eq.symm, fun h => h.imp id Eq.symm⟩
theorem refHas (A : Option Addr) (n c : Nat) (l : List (List UInt8)) (a : List UInt8) (w : World) (hx : IdRow w A l) (hn : l.length = n) (hl : ∀ s ∈ l, s.length = 32) (ha : a.length = 32) :
    Calls Try.prog 51 #[.slice A n c, idV a] w fun e w' => e = .returned (.bool (hasL l a)) ∧ Below w.heap.size w w' := by
  subst hn
  have HX := hid hx
  have HL := hid hl
  have HA := hid ha
  have hxl := hx.1
  clear hx hl ha
  go_enter Try.func51, Try.ntmps51
  have HB := hid (grow_refl w)
  apply wp_seq_k; intro _ _; apply wp_region_lit
  refine op_box (l := a) rfl rfl rfl ?_
  intro g3 w1 hgl hgu hb hr
  have XL := hid (Nat.le_trans HB.out.size hgl)
  replace HB := hid (Grow.trans HB.out hb)
  have X := hid hr; have XU := hid hgu
  clear hr hgl hgu hb
  try simp only [Act.put, List.setIfInBounds_toArray, List.set_cons_zero, List.set_cons_succ]
  go_wp2_with fail
  go_loopg [5] (l.length + 1) (fun q i wr => ∃ k : Nat, k ≤ l.length ∧ q = l.length + 1 - k ∧ i = .int .i64 k ∧ Hid ((l.take k).contains a = false) ∧ Hid (Grow w1 wr))
  case atStart => exact ⟨0, by omega, rfl, rfl, hid rfl, hid (grow_refl _)⟩
  case round =>
    obtain ⟨k, hk, hq, rfl, HT, HG⟩ := hrel
    by_cases hlt : k < l.length
    · have k0 : (0 : Int) ≤ (k : Int) := by omega
      have k1 : (k : Int) < (l.length : Int) := by omega
      have HG2 := hid (Grow.trans HB.out HG.out)
      obtain ⟨ad, rfl, hc⟩ := (HX.out.grow HG2.out).at_ k hlt
      have HC := hid hc
      have HS1 := hid (getD_mem_len HL.out hlt)
      have HX3 := hid (grow_block X.out HG.out)
      have hq1 := fun w => id_eql (l.getD k []) a HS1.out HA.out w
      have hq2 := id_guard .eql (l.getD k []) a
      have HN := hid (contains_take l a k hlt)
      have HM := hid (show l.getD k [] ∈ l by simp [hlt])
      clear hc
      generalize l.getD k [] = s1 at *
      go_wp2_with fail
      (refine' wp_region_head 6 0 [_, _, _, _, _, _] rfl (by kernel_rfl) (by kernel_rfl) ?hreg213; case' hreg213 => simp only [List.take_succ_cons, List.take_zero, List.zip_cons_cons, List.zip_nil_right, List.drop_succ_cons, List.drop_zero, List.drop_nil])
      (refine' head_val ?dw214 ?de214 ?dr214 ?dh214; (case' dw214 => rfl); (case' de214 => (first | exact fun _ _ _ => trivial | (intro t ht w; cases ht; simp [upE]))); (case' dr214 => (intro w' hw' _; go_simp; with_reducible rfl)); (case' dh214 => (try simp only [Act.put, List.setIfInBounds_toArray, List.set_cons_zero, List.set_cons_succ]))); (refine' head_val ?dw215 ?de215 ?dr215 ?dh215; (case' dw215 => rfl); (case' de215 => (first | exact fun _ _ _ => trivial | (intro t ht w; cases ht; simp [upE]))); (case' dr215 => (intro w' hw' _; go_simp; with_reducible rfl)); (case' dh215 => (try simp only [Act.put, List.setIfInBounds_toArray, List.set_cons_zero, List.set_cons_succ]))); (refine' head_val ?dw216 ?de216 ?dr216 ?dh216; (case' dw216 => rfl); (case' de216 => (first | exact fun _ _ _ => trivial | (intro t ht w; cases ht; simp [upE]))); (case' dr216 => (intro w' hw' _; go_simp; with_reducible rfl)); (case' dh216 => (try simp only [Act.put, List.setIfInBounds_toArray, List.set_cons_zero, List.set_cons_succ])))
      (refine' head_loadAt (x := _) rfl ?_ rfl rfl (HC.out) (HS1.out) ?_; (first | exact fun _ _ _ => trivial | (intro t ht w; cases ht; simp [upE])); try simp only [Act.put, List.setIfInBounds_toArray, List.set_cons_zero, List.set_cons_succ])
      (refine' head_loadId (x := _) rfl ?_ rfl rfl HX3.out (HA.out) ?_; (first | exact fun _ _ _ => trivial | (intro t ht w; cases ht; simp [upE])); try simp only [Act.put, List.setIfInBounds_toArray, List.set_cons_zero, List.set_cons_succ])
      (refine' head_val ?dw217 ?de217 ?dr217 ?dh217; (case' dw217 => rfl); (case' de217 => (first | exact fun _ _ _ => trivial | (intro t ht w; cases ht; simp [upE]))); (case' dr217 => (intro w' hw' _; go_simp; with_reducible rfl)); (case' dh217 => (try simp only [Act.put, List.setIfInBounds_toArray, List.set_cons_zero, List.set_cons_succ])))
      refine head_nil ?_
      intro w2 hb _
      refine wpList_nil ?_
      replace HG := hid (Grow.trans HG.out hb)
      clear hb hq1 hq2
      cases hz : (s1 == a) with
      | true =>
        have HZ := hid hz
        clear hz
        go_wp2
        go_ret
        refine ⟨ret_bool ?_, HB.out.trans HG.out⟩
        unfold hasL
        have e := eq_of_beq HZ.out
        have hm := HM.out
        rw [e] at hm
        simpa using hm
      | false =>
        have HT2 := hid (show (l.take (k + 1)).contains a = false by rw [HN.out, HT.out, hz]; rfl)
        clear hz
        go_wp2
        go_roundg (l.length + 1 - (k + 1))
        case rel => exact ⟨k + 1, by omega, rfl, by go_num, HT2, HG⟩
        case measure => omega
    · obtain rfl : k = l.length := by omega
      have h := HT.out
      rw [List.take_length] at h
      have HF := hid h
      clear h
      go_wp2
      go_ret
      exact ⟨ret_bool HF.out.symm, HB.out.trans HG.out⟩
theorem ins_split (a : List UInt8) : ∀ (l : List (List UInt8)) (k : Nat), (∀ i, i < k → i < l.length → lexLess a (l.getD i []) = false) → k ≤ l.length → ins a l = l.take k ++ ins a (l.drop k)
  | l, 0, _, _ => rfl
  | [], k + 1, _, h => by simp at h
  | y :: l, k + 1, h, hk => by
    have h0 := h 0 (by omega) (by simp)
    simp only [List.getD_cons_zero] at h0
    rw [ins, if_neg (by rw [h0]; simp), ins_split a l k (fun i hi hl => by have := h (i + 1) (by omega) (by simpa using hl); simpa using this) (by simpa using hk)]
    rfl
theorem refPut (A : Option Addr) (n c : Nat) (l : List (List UInt8)) (a : List UInt8) (w : World) (hx : IdRow w A l) (hn : l.length = n) (hc0 : l.length ≤ c) (hl : ∀ s ∈ l, s.length = 32) (ha : a.length = 32) (hmax : l.length ≤ 1000000) :
    Calls Try.prog 121 #[.slice A n c, idV a] w (RetSl w (putL l a)) := by
  subst hn
  have HX := hid hx
  have HL := hid hl
  have HA := hid ha
  have HCC := hid hc0
  clear hx hl ha hc0
  cases hh : hasL l a with
  | true =>
    have HH := hid hh
    have HP := hid (show putL l a = l by unfold putL; exact if_pos hh)
    clear hh
    rw [HP.out]
    go_enter Try.func121, Try.ntmps121
    have HB := hid (grow_refl w)
    apply wp_seq_k; intro _ _; apply wp_region_lit
    refine op_box (l := a) rfl rfl rfl ?_
    intro g3 w1 hgl hgu hb hr
    have XL := hid (Nat.le_trans HB.out.size hgl)
    replace HB := hid (Grow.trans HB.out hb)
    replace HX := hid (HX.out.grow hb)
    have X := hid hr; have XU := hid hgu
    clear hr hgl hgu hb
    try simp only [Act.put, List.setIfInBounds_toArray, List.set_cons_zero, List.set_cons_succ]
    go_wp2_with (first | (refine op_loadId rfl rfl rfl X.out (HA.out) ?_) |  fail)
    refine (refHas A _ c l a _ HX.out rfl HL.out HA.out).mono ?_
    rintro e w2 ⟨rfl, hb⟩
    replace HB := hid (Grow.trans HB.out hb)
    replace HX := hid (HX.out.grow hb)
    replace X := hid (grow_block X.out hb)
    clear hb
    rw [HH.out]
    go_wp2
    go_ret
    exact ⟨_, rfl, ⟨⟨A, c, rfl, HCC.out, HX.out⟩, HL.out⟩, HB.out⟩
  | false =>
    have HH := hid hh
    have HP := hid (show putL l a = ins a l by unfold putL; exact if_neg (by unfold hasL at hh; rw [hh]; simp))
    clear hh
    rw [HP.out]
    go_enter Try.func121, Try.ntmps121
    have HB := hid (grow_refl w)
    apply wp_seq_k; intro _ _; apply wp_region_lit
    refine op_box (l := a) rfl rfl rfl ?_
    intro g3 w3 hgl hgu hb hr
    have XL := hid (Nat.le_trans HB.out.size hgl)
    replace HB := hid (Grow.trans HB.out hb)
    replace HX := hid (HX.out.grow hb)
    have X := hid hr; have XU := hid hgu
    clear hr hgl hgu hb
    try simp only [Act.put, List.setIfInBounds_toArray, List.set_cons_zero, List.set_cons_succ]
    go_wp2_with (first | (refine op_loadId rfl rfl rfl X.out (HA.out) ?_) |  fail)
    refine (refHas A _ c l a _ HX.out rfl HL.out HA.out).mono ?_
    rintro e w4 ⟨rfl, hb⟩
    replace HB := hid (Grow.trans HB.out hb)
    replace HX := hid (HX.out.grow hb)
    replace X := hid (grow_block X.out hb)
    clear hb
    rw [HH.out]
    go_wp2_with fail
    have HO := hid (empty_own w4 w4.heap.size (Nat.le_refl _))
    have HG := hid (grow_alloc w4 (.cells #[] 23))
    go_loopg [5, 6, 7] (l.length + 1) (fun q v d i wr => ∃ (k : Nat) (done : Bool) (o : List (List UInt8)), k ≤ l.length ∧ q = l.length + 1 - k ∧ i = .int .i64 k ∧ d = .bool done ∧ Hid (done = true → o ++ l.drop k = ins a l) ∧ Hid (done = false → o = l.take k ∧ ins a l = l.take k ++ ins a (l.drop k)) ∧ Hid (o.length ≤ k + 1) ∧ Hid (OwnIds 23 w4.heap.size wr v o) ∧ Hid (Grow w4 wr))
    case atStart => exact ⟨0, false, [], by omega, rfl, rfl, rfl, hid (fun h => by cases h), hid (fun _ => ⟨rfl, rfl⟩), hid (by simp), HO, HG⟩
    case round =>
      clear HO HG
      obtain ⟨k, done, o, hk, hq, rfl, rfl, HD1, HD2, HLN, HO, HG⟩ := hrel
      by_cases hlt : k < l.length
      · have k0 : (0 : Int) ≤ (k : Int) := by omega
        have k1 : (k : Int) < (l.length : Int) := by omega
        obtain ⟨ad, rfl, hc⟩ := HX.out.at_ k hlt
        have HC := hid hc
        have HS1 := hid (getD_mem_len HL.out hlt)
        have HDR := hid (show l.drop k = l.getD k [] :: l.drop (k + 1) by rw [List.drop_eq_getElem_cons hlt]; simp [hlt])
        have HTK := hid (show l.take (k + 1) = l.take k ++ [l.getD k []] by rw [List.take_succ_eq_append_getElem hlt]; simp [hlt])
        have hol : o.length ≤ 1000001 := by have := HLN.out; omega
        clear hc
        generalize l.getD k [] = s1 at *
        cases done with
        | true =>
          have HE := hid (show (o ++ [s1]) ++ l.drop (k + 1) = ins a l by have h := HD1.out rfl; rw [HDR.out] at h; rw [← h]; simp)
          clear HD1 HD2
          go_wp2_with fail
          (refine' wp_region_head 10 0 [_, _, _, _, _, _, _, _, _, _] rfl (by kernel_rfl) (by kernel_rfl) ?hreg218; case' hreg218 => simp only [List.take_succ_cons, List.take_zero, List.zip_cons_cons, List.zip_nil_right, List.drop_succ_cons, List.drop_zero, List.drop_nil])
          (refine' head_val ?dw219 ?de219 ?dr219 ?dh219; (case' dw219 => rfl); (case' de219 => (first | exact fun _ _ _ => trivial | (intro t ht w; cases ht; simp [upE]))); (case' dr219 => (intro w' hw' _; go_simp; with_reducible rfl)); (case' dh219 => (try simp only [Act.put, List.setIfInBounds_toArray, List.set_cons_zero, List.set_cons_succ]))); (refine' head_val ?dw220 ?de220 ?dr220 ?dh220; (case' dw220 => rfl); (case' de220 => (first | exact fun _ _ _ => trivial | (intro t ht w; cases ht; simp [upE]))); (case' dr220 => (intro w' hw' _; go_simp; with_reducible rfl)); (case' dh220 => (try simp only [Act.put, List.setIfInBounds_toArray, List.set_cons_zero, List.set_cons_succ]))); (refine' head_val ?dw221 ?de221 ?dr221 ?dh221; (case' dw221 => rfl); (case' de221 => (first | exact fun _ _ _ => trivial | (intro t ht w; cases ht; simp [upE]))); (case' dr221 => (intro w' hw' _; go_simp; with_reducible rfl)); (case' dh221 => (try simp only [Act.put, List.setIfInBounds_toArray, List.set_cons_zero, List.set_cons_succ])))
          (refine' head_skip (V := fun _ _ => True) ?sw222 ?se222 ?sh222; (case' sw222 => rfl); (case' se222 => (first | exact fun _ _ _ => trivial | (intro t ht w; cases ht; simp [upE]))); (case' sh222 => (try simp only [Act.put, List.setIfInBounds_toArray, List.set_cons_zero, List.set_cons_succ]))); (refine' head_skip (V := fun _ _ => True) ?sw223 ?se223 ?sh223; (case' sw223 => rfl); (case' se223 => (first | exact fun _ _ _ => trivial | (intro t ht w; cases ht; simp [upE]))); (case' sh223 => (try simp only [Act.put, List.setIfInBounds_toArray, List.set_cons_zero, List.set_cons_succ]))); (refine' head_skip (V := fun _ _ => True) ?sw224 ?se224 ?sh224; (case' sw224 => rfl); (case' se224 => (first | exact fun _ _ _ => trivial | (intro t ht w; cases ht; simp [upE]))); (case' sh224 => (try simp only [Act.put, List.setIfInBounds_toArray, List.set_cons_zero, List.set_cons_succ]))); (refine' head_skip (V := fun _ _ => True) ?sw225 ?se225 ?sh225; (case' sw225 => rfl); (case' se225 => (first | exact fun _ _ _ => trivial | (intro t ht w; cases ht; simp [upE]))); (case' sh225 => (try simp only [Act.put, List.setIfInBounds_toArray, List.set_cons_zero, List.set_cons_succ]))); (refine' head_skip (V := fun _ _ => True) ?sw226 ?se226 ?sh226; (case' sw226 => rfl); (case' se226 => (first | exact fun _ _ _ => trivial | (intro t ht w; cases ht; simp [upE]))); (case' sh226 => (try simp only [Act.put, List.setIfInBounds_toArray, List.set_cons_zero, List.set_cons_succ]))); (refine' head_skip (V := fun _ _ => True) ?sw227 ?se227 ?sh227; (case' sw227 => rfl); (case' se227 => (first | exact fun _ _ _ => trivial | (intro t ht w; cases ht; simp [upE]))); (case' sh227 => (try simp only [Act.put, List.setIfInBounds_toArray, List.set_cons_zero, List.set_cons_succ])))
          (refine' head_val ?dw228 ?de228 ?dr228 ?dh228; (case' dw228 => rfl); (case' de228 => (first | exact fun _ _ _ => trivial | (intro t ht w; cases ht; simp [upE]))); (case' dr228 => (intro w' hw' _; go_simp; with_reducible rfl)); (case' dh228 => (try simp only [Act.put, List.setIfInBounds_toArray, List.set_cons_zero, List.set_cons_succ])))
          refine head_nil ?_
          intro w5 hb _
          refine wpList_nil ?_
          replace HO := hid (HO.out.grow hb)
          replace HG := hid (Grow.trans HG.out hb)
          clear hb
          go_wp2_with (first | (refine op_loadId rfl rfl rfl (grow_block X.out HG.out) HA.out ?_) | (refine op_loadAt (l := s1) rfl rfl rfl (fun j v hv => grow_cell (HC.out j v hv) HG.out) HS1.out ?_) | (refine op_appIds1 (w0 := w4) (l1 := s1) rfl rfl rfl rfl rfl rfl (fun _ => rfl) (fun _ => rfl) HS1.out HO.out HG.out HG.out.size (by first | omega | (simp; omega)) ?_))
          intro u6 v6 w6 ho hb hs
          clear HO HG
          have HO := hid ho
          have HG := hid hb
          clear ho hb hs
          go_wp2
          go_roundg (l.length + 1 - (k + 1))
          case rel => exact ⟨k + 1, true, o ++ [s1], by omega, rfl, by go_num, rfl, hid (fun _ => HE.out), hid (fun h => by cases h), hid (by have := HLN.out; simp; omega), HO, HG⟩
          case measure => omega
        | false =>
          obtain ⟨ho1, ho2⟩ := HD2.out rfl
          have HO1 := hid ho1
          have HO2 := hid ho2
          clear HD1 HD2 ho1 ho2
          cases hz : lexLess a s1 with
          | true =>
            have HE := hid (show (o ++ [a, s1]) ++ l.drop (k + 1) = ins a l by rw [HO2.out, HDR.out, ins, if_pos hz, HO1.out]; simp)
            have HZ := hid hz
            clear hz
            have HX3 := hid (grow_block X.out HG.out)
            go_wp2_with fail
            (refine' wp_region_head 10 0 [_, _, _, _, _, _, _, _, _, _] rfl (by kernel_rfl) (by kernel_rfl) ?hreg229; case' hreg229 => simp only [List.take_succ_cons, List.take_zero, List.zip_cons_cons, List.zip_nil_right, List.drop_succ_cons, List.drop_zero, List.drop_nil])
            (refine' head_val ?dw230 ?de230 ?dr230 ?dh230; (case' dw230 => rfl); (case' de230 => (first | exact fun _ _ _ => trivial | (intro t ht w; cases ht; simp [upE]))); (case' dr230 => (intro w' hw' _; go_simp; with_reducible rfl)); (case' dh230 => (try simp only [Act.put, List.setIfInBounds_toArray, List.set_cons_zero, List.set_cons_succ]))); (refine' head_val ?dw231 ?de231 ?dr231 ?dh231; (case' dw231 => rfl); (case' de231 => (first | exact fun _ _ _ => trivial | (intro t ht w; cases ht; simp [upE]))); (case' dr231 => (intro w' hw' _; go_simp; with_reducible rfl)); (case' dh231 => (try simp only [Act.put, List.setIfInBounds_toArray, List.set_cons_zero, List.set_cons_succ]))); (refine' head_val ?dw232 ?de232 ?dr232 ?dh232; (case' dw232 => rfl); (case' de232 => (first | exact fun _ _ _ => trivial | (intro t ht w; cases ht; simp [upE]))); (case' dr232 => (intro w' hw' _; go_simp; with_reducible rfl)); (case' dh232 => (try simp only [Act.put, List.setIfInBounds_toArray, List.set_cons_zero, List.set_cons_succ])))
            (refine' head_loadId (x := _) rfl ?_ rfl rfl HX3.out (HA.out) ?_; (first | exact fun _ _ _ => trivial | (intro t ht w; cases ht; simp [upE])); try simp only [Act.put, List.setIfInBounds_toArray, List.set_cons_zero, List.set_cons_succ])
            (refine' head_val ?dw233 ?de233 ?dr233 ?dh233; (case' dw233 => rfl); (case' de233 => (first | exact fun _ _ _ => trivial | (intro t ht w; cases ht; simp [upE]))); (case' dr233 => (intro w' hw' _; go_simp; with_reducible rfl)); (case' dh233 => (try simp only [Act.put, List.setIfInBounds_toArray, List.set_cons_zero, List.set_cons_succ]))); (refine' head_val ?dw234 ?de234 ?dr234 ?dh234; (case' dw234 => rfl); (case' de234 => (first | exact fun _ _ _ => trivial | (intro t ht w; cases ht; simp [upE]))); (case' dr234 => (intro w' hw' _; go_simp; with_reducible rfl)); (case' dh234 => (try simp only [Act.put, List.setIfInBounds_toArray, List.set_cons_zero, List.set_cons_succ]))); (refine' head_val ?dw235 ?de235 ?dr235 ?dh235; (case' dw235 => rfl); (case' de235 => (first | exact fun _ _ _ => trivial | (intro t ht w; cases ht; simp [upE]))); (case' dr235 => (intro w' hw' _; go_simp; with_reducible rfl)); (case' dh235 => (try simp only [Act.put, List.setIfInBounds_toArray, List.set_cons_zero, List.set_cons_succ])))
            (refine' head_loadAt (x := _) rfl ?_ rfl rfl (fun j v hv => grow_cell (HC.out j v hv) HG.out) (HS1.out) ?_; (first | exact fun _ _ _ => trivial | (intro t ht w; cases ht; simp [upE])); try simp only [Act.put, List.setIfInBounds_toArray, List.set_cons_zero, List.set_cons_succ])
            (refine' head_call ?cw236 ?ce236 ?cr236 ?cc236 ?ch236; (case' cw236 => rfl); (case' ce236 => (first | exact fun _ _ _ => trivial | (intro t ht w; cases ht; simp [upE]))); (case' cr236 => (intro w'; go_simp; first | exact ⟨rfl, rfl⟩ | with_reducible rfl)); (case' cc236 => (intro w' hw' _; exact by have h := refLess a s1 HA.out HS1.out w'; rw [HZ.out] at h; exact h)); (case' ch236 => (try simp only [Act.put, List.setIfInBounds_toArray, List.set_cons_zero, List.set_cons_succ])))
            (refine' head_val ?dw237 ?de237 ?dr237 ?dh237; (case' dw237 => rfl); (case' de237 => (first | exact fun _ _ _ => trivial | (intro t ht w; cases ht; simp [upE]))); (case' dr237 => (intro w' hw' _; go_simp; with_reducible rfl)); (case' dh237 => (try simp only [Act.put, List.setIfInBounds_toArray, List.set_cons_zero, List.set_cons_succ])))
            clear HX3
            refine head_nil ?_
            intro w5 hb _
            refine wpList_nil ?_
            replace HO := hid (HO.out.grow hb)
            replace HG := hid (Grow.trans HG.out hb)
            clear hb
            go_wp2_with (first | (refine op_loadId rfl rfl rfl (grow_block X.out HG.out) HA.out ?_) | (refine op_loadAt (l := s1) rfl rfl rfl (fun j v hv => grow_cell (HC.out j v hv) HG.out) HS1.out ?_) | (refine op_appIds1 (w0 := w4) (l1 := a) rfl rfl rfl rfl rfl rfl (fun _ => rfl) (fun _ => rfl) HA.out HO.out HG.out HG.out.size (by first | omega | (simp; omega)) ?_))
            intro u6 v6 w6 ho hb hs
            clear HO HG
            have HO := hid ho
            have HG := hid hb
            clear ho hb hs
            go_wp2_with (first | (refine op_loadId rfl rfl rfl (grow_block X.out HG.out) HA.out ?_) | (refine op_loadAt (l := s1) rfl rfl rfl (fun j v hv => grow_cell (HC.out j v hv) HG.out) HS1.out ?_) | (refine op_appIds1 (w0 := w4) (l1 := s1) rfl rfl rfl rfl rfl rfl (fun _ => rfl) (fun _ => rfl) HS1.out HO.out HG.out HG.out.size (by first | omega | (simp; omega)) ?_))
            intro u7 v7 w7 ho hb hs
            clear HO HG
            have HO := hid ho
            have HG := hid hb
            clear ho hb hs
            go_wp2
            go_roundg (l.length + 1 - (k + 1))
            case rel => exact ⟨k + 1, true, o ++ [a, s1], by omega, rfl, by go_num, rfl, hid (fun _ => HE.out), hid (fun h => by cases h), hid (by rw [HO1.out]; simp; omega), HO, HG⟩
            case measure => omega
          | false =>
            have HE1 := hid (show o ++ [s1] = l.take (k + 1) by rw [HO1.out, HTK.out])
            have HE2 := hid (show ins a l = l.take (k + 1) ++ ins a (l.drop (k + 1)) by
              rw [HO2.out, HDR.out, ins, if_neg (by rw [hz]; simp), HTK.out]
              simp)
            have HZ := hid hz
            clear hz
            have HX3 := hid (grow_block X.out HG.out)
            go_wp2_with fail
            (refine' wp_region_head 10 0 [_, _, _, _, _, _, _, _, _, _] rfl (by kernel_rfl) (by kernel_rfl) ?hreg238; case' hreg238 => simp only [List.take_succ_cons, List.take_zero, List.zip_cons_cons, List.zip_nil_right, List.drop_succ_cons, List.drop_zero, List.drop_nil])
            (refine' head_val ?dw239 ?de239 ?dr239 ?dh239; (case' dw239 => rfl); (case' de239 => (first | exact fun _ _ _ => trivial | (intro t ht w; cases ht; simp [upE]))); (case' dr239 => (intro w' hw' _; go_simp; with_reducible rfl)); (case' dh239 => (try simp only [Act.put, List.setIfInBounds_toArray, List.set_cons_zero, List.set_cons_succ]))); (refine' head_val ?dw240 ?de240 ?dr240 ?dh240; (case' dw240 => rfl); (case' de240 => (first | exact fun _ _ _ => trivial | (intro t ht w; cases ht; simp [upE]))); (case' dr240 => (intro w' hw' _; go_simp; with_reducible rfl)); (case' dh240 => (try simp only [Act.put, List.setIfInBounds_toArray, List.set_cons_zero, List.set_cons_succ]))); (refine' head_val ?dw241 ?de241 ?dr241 ?dh241; (case' dw241 => rfl); (case' de241 => (first | exact fun _ _ _ => trivial | (intro t ht w; cases ht; simp [upE]))); (case' dr241 => (intro w' hw' _; go_simp; with_reducible rfl)); (case' dh241 => (try simp only [Act.put, List.setIfInBounds_toArray, List.set_cons_zero, List.set_cons_succ])))
            (refine' head_loadId (x := _) rfl ?_ rfl rfl HX3.out (HA.out) ?_; (first | exact fun _ _ _ => trivial | (intro t ht w; cases ht; simp [upE])); try simp only [Act.put, List.setIfInBounds_toArray, List.set_cons_zero, List.set_cons_succ])
            (refine' head_val ?dw242 ?de242 ?dr242 ?dh242; (case' dw242 => rfl); (case' de242 => (first | exact fun _ _ _ => trivial | (intro t ht w; cases ht; simp [upE]))); (case' dr242 => (intro w' hw' _; go_simp; with_reducible rfl)); (case' dh242 => (try simp only [Act.put, List.setIfInBounds_toArray, List.set_cons_zero, List.set_cons_succ]))); (refine' head_val ?dw243 ?de243 ?dr243 ?dh243; (case' dw243 => rfl); (case' de243 => (first | exact fun _ _ _ => trivial | (intro t ht w; cases ht; simp [upE]))); (case' dr243 => (intro w' hw' _; go_simp; with_reducible rfl)); (case' dh243 => (try simp only [Act.put, List.setIfInBounds_toArray, List.set_cons_zero, List.set_cons_succ]))); (refine' head_val ?dw244 ?de244 ?dr244 ?dh244; (case' dw244 => rfl); (case' de244 => (first | exact fun _ _ _ => trivial | (intro t ht w; cases ht; simp [upE]))); (case' dr244 => (intro w' hw' _; go_simp; with_reducible rfl)); (case' dh244 => (try simp only [Act.put, List.setIfInBounds_toArray, List.set_cons_zero, List.set_cons_succ])))
            (refine' head_loadAt (x := _) rfl ?_ rfl rfl (fun j v hv => grow_cell (HC.out j v hv) HG.out) (HS1.out) ?_; (first | exact fun _ _ _ => trivial | (intro t ht w; cases ht; simp [upE])); try simp only [Act.put, List.setIfInBounds_toArray, List.set_cons_zero, List.set_cons_succ])
            (refine' head_call ?cw245 ?ce245 ?cr245 ?cc245 ?ch245; (case' cw245 => rfl); (case' ce245 => (first | exact fun _ _ _ => trivial | (intro t ht w; cases ht; simp [upE]))); (case' cr245 => (intro w'; go_simp; first | exact ⟨rfl, rfl⟩ | with_reducible rfl)); (case' cc245 => (intro w' hw' _; exact by have h := refLess a s1 HA.out HS1.out w'; rw [HZ.out] at h; exact h)); (case' ch245 => (try simp only [Act.put, List.setIfInBounds_toArray, List.set_cons_zero, List.set_cons_succ])))
            (refine' head_val ?dw246 ?de246 ?dr246 ?dh246; (case' dw246 => rfl); (case' de246 => (first | exact fun _ _ _ => trivial | (intro t ht w; cases ht; simp [upE]))); (case' dr246 => (intro w' hw' _; go_simp; with_reducible rfl)); (case' dh246 => (try simp only [Act.put, List.setIfInBounds_toArray, List.set_cons_zero, List.set_cons_succ])))
            clear HX3
            refine head_nil ?_
            intro w5 hb _
            refine wpList_nil ?_
            replace HO := hid (HO.out.grow hb)
            replace HG := hid (Grow.trans HG.out hb)
            clear hb
            go_wp2_with (first | (refine op_loadId rfl rfl rfl (grow_block X.out HG.out) HA.out ?_) | (refine op_loadAt (l := s1) rfl rfl rfl (fun j v hv => grow_cell (HC.out j v hv) HG.out) HS1.out ?_) | (refine op_appIds1 (w0 := w4) (l1 := s1) rfl rfl rfl rfl rfl rfl (fun _ => rfl) (fun _ => rfl) HS1.out HO.out HG.out HG.out.size (by first | omega | (simp; omega)) ?_))
            intro u7 v7 w7 ho hb hs
            clear HO HG
            have HO := hid ho
            have HG := hid hb
            clear ho hb hs
            go_wp2
            go_roundg (l.length + 1 - (k + 1))
            case rel => exact ⟨k + 1, false, o ++ [s1], by omega, rfl, by go_num, rfl, hid (fun h => by cases h), hid (fun _ => ⟨HE1.out, HE2.out⟩), hid (by have := HLN.out; simp; omega), HO, HG⟩
            case measure => omega
      · obtain rfl : k = l.length := by omega
        have hol : o.length ≤ 1000001 := by have := HLN.out; omega
        cases done with
        | true =>
          have h := HD1.out rfl
          rw [List.drop_length, List.append_nil] at h
          have HE := hid h
          clear h HD1 HD2
          go_wp2_with fail
          go_ret
          rw [← HE.out]
          exact ⟨_, rfl, HO.out.slc, HB.out.trans HG.out⟩
        | false =>
          obtain ⟨ho1, ho2⟩ := HD2.out rfl
          have HE := hid (show o ++ [a] = ins a l by rw [ho2, ho1, List.drop_length]; rfl)
          clear HD1 HD2 ho1 ho2
          go_wp2_with (first | (refine op_loadId rfl rfl rfl (grow_block X.out HG.out) HA.out ?_) | (refine op_appIds1 (w0 := w4) (l1 := a) rfl rfl rfl rfl rfl rfl (fun _ => rfl) (fun _ => rfl) HA.out HO.out HG.out HG.out.size (by first | omega | (simp; omega)) ?_))
          intro u7 v7 w7 ho hb hs
          clear HO HG
          have HO := hid ho
          have HG := hid hb
          clear ho hb hs
          go_wp2_with fail
          go_ret
          rw [← HE.out]
          exact ⟨_, rfl, HO.out.slc, HB.out.trans HG.out⟩
theorem refSort (A : Option Addr) (n c : Nat) (l : List (List UInt8)) (w : World) (hx : IdRow w A l) (hn : l.length = n) (hl : ∀ s ∈ l, s.length = 32) (hmax : l.length ≤ 1000000) :
    Calls Try.prog 60 #[.slice A n c] w (RetSl w (sortL l)) := by
  subst hn
  have HX := hid hx
  have HL := hid hl
  clear hx hl
  go_enter Try.func60, Try.ntmps60
  have HB := hid (grow_refl w)
  go_wp2_with fail
  have HO := hid (empty_own w w.heap.size (Nat.le_refl _))
  have HG := hid (grow_alloc w (.cells #[] 23))
  go_loopg [3, 4] (l.length + 1) (fun q v i wr => ∃ k : Nat, k ≤ l.length ∧ q = l.length + 1 - k ∧ i = .int .i64 k ∧ Hid (IdSlC wr v (sortL (l.take k))) ∧ Hid (Grow w wr))
  case atStart => exact ⟨0, by omega, rfl, rfl, hid (HO.out.slc), HG⟩
  case round =>
    clear HO HG
    obtain ⟨k, hk, hq, rfl, HO, HG⟩ := hrel
    by_cases hlt : k < l.length
    · have k0 : (0 : Int) ≤ (k : Int) := by omega
      have k1 : (k : Int) < (l.length : Int) := by omega
      obtain ⟨ad, rfl, hc⟩ := (HX.out.grow HG.out).at_ k hlt
      have HC := hid hc
      have HS1 := hid (getD_mem_len HL.out hlt)
      have HN := hid (sortTo_succ l k hlt)
      have HLE := hid (show (sortL (l.take k)).length ≤ 1000000 by have := sortL_length (l.take k); rw [List.length_take] at this; omega)
      obtain ⟨⟨A2, c2, rfl, hcc, hr⟩, h32⟩ := HO.out
      have HR := hid hr
      have HCC := hid hcc
      have H32 := hid h32
      clear hc hr hcc h32 HO
      generalize l.getD k [] = s1 at *
      generalize sortL (l.take k) = o at *
      go_wp2_with (refine op_loadAt (l := s1) rfl rfl rfl HC.out HS1.out ?_)
      refine (refPut A2 _ c2 o s1 _ HR.out rfl HCC.out H32.out HS1.out HLE.out).mono ?_
      rintro e w2 ⟨v, rfl, ho, hb⟩
      rw [← HN.out] at ho
      have HO := hid ho
      replace HG := hid (Grow.trans HG.out hb)
      clear ho hb HC
      go_wp2
      go_roundg (l.length + 1 - (k + 1))
      case rel => exact ⟨k + 1, by omega, rfl, by go_num, HO, HG⟩
      case measure => omega
    · obtain rfl : k = l.length := by omega
      go_wp2_with fail
      go_ret
      rw [List.take_length] at HO
      exact ⟨_, rfl, HO.out, HG.out⟩
def onlyL (a b : List (List UInt8)) (h : Bool) : List (List UInt8) := a.filter (fun x => hasL b x == h)
theorem onlyL_succ (a b : List (List UInt8)) (h : Bool) (k : Nat) (hk : k < a.length) : onlyL (a.take (k + 1)) b h = onlyL (a.take k) b h ++ (if hasL b (a.getD k []) == h then [a.getD k []] else []) := by
  rw [List.take_succ_eq_append_getElem hk, onlyL, List.filter_append]
  have e : a.getD k [] = a[k] := by simp [hk]
  rw [e]
  simp [onlyL, List.filter_cons]
theorem onlyL_32 {a b : List (List UInt8)} {h : Bool} (ha : ∀ s ∈ a, s.length = 32) : ∀ s ∈ onlyL a b h, s.length = 32 := fun s hs => ha s (List.mem_filter.1 hs).1
end Go.Proofs.Ytffgifegaagndaa
end
section
/- Rows of ids that rise: lists alone. -/
namespace Go.Qk
open Go.RowKit
theorem lexLess_trans : ∀ (a b c : List UInt8), lexLess a b = true → lexLess b c = true → lexLess a c = true
  | [], _, _, h, _ => by simp [lexLess] at h
  | _ :: _, [], _, h, _ => by simp [lexLess] at h
  | _ :: _, _ :: _, [], _, h => by simp [lexLess] at h
  | x :: a, y :: b, z :: c, h1, h2 => by
    by_cases e : x = y
    · subst e
      by_cases f : x = z
      · subst f
        simp only [lexLess, if_true] at h1 h2 ⊢
        exact lexLess_trans a b c h1 h2
      · simp only [lexLess, if_neg f] at h2 ⊢
        exact h2
    · by_cases f : y = z
      · subst f
        simp only [lexLess, if_neg e] at h1 ⊢
        exact h1
      · simp only [lexLess, if_neg e, if_neg f, decide_eq_true_eq, UInt8.lt_iff_toNat_lt] at h1 h2
        have g : x ≠ z := by rintro rfl; omega
        simp only [lexLess, if_neg g, decide_eq_true_eq, UInt8.lt_iff_toNat_lt]
        omega
theorem lexLess_tri : ∀ (a b : List UInt8), a.length = b.length → lexLess a b = false → lexLess b a = false → a = b
  | [], [], _, _, _ => rfl
  | [], _ :: _, h, _, _ => by simp at h
  | _ :: _, [], h, _, _ => by simp at h
  | x :: a, y :: b, h, h1, h2 => by
    by_cases e : x = y
    · subst e
      simp only [lexLess, if_true] at h1 h2
      rw [lexLess_tri a b (by simpa using h) h1 h2]
    · simp only [lexLess, if_neg e, if_neg (Ne.symm e), decide_eq_false_iff_not, UInt8.lt_iff_toNat_lt] at h1 h2
      exact absurd (UInt8.toNat_inj.1 (by omega)) e
/-- Each one is above those ahead. -/
def Rises (l : List (List UInt8)) : Prop := l.Pairwise fun a b => lexLess a b = true
theorem rises_ext : ∀ (l m : List (List UInt8)), Rises l → Rises m → (∀ x, x ∈ l ↔ x ∈ m) → l = m
  | [], [], _, _, _ => rfl
  | [], y :: m, _, _, h => by have := (h y).2 List.mem_cons_self; cases this
  | x :: l, [], _, _, h => by have := (h x).1 List.mem_cons_self; cases this
  | x :: l, y :: m, h1, h2, h => by
    obtain ⟨a1, b1⟩ := List.pairwise_cons.1 h1
    obtain ⟨a2, b2⟩ := List.pairwise_cons.1 h2
    have e : x = y := by
      rcases List.mem_cons.1 ((h x).1 List.mem_cons_self) with e | hx
      · exact e
      · rcases List.mem_cons.1 ((h y).2 List.mem_cons_self) with e | hy
        · exact e.symm
        · have h3 := a2 x hx
          have h4 := lexLess_asymm _ _ (a1 y hy)
          rw [h3] at h4
          cases h4
    subst e
    have nx : ∀ (k : List (List UInt8)), (∀ a ∈ k, lexLess x a = true) → x ∉ k := fun k hk hx => by
      have := hk x hx
      rw [lexLess_self] at this
      cases this
    rw [rises_ext l m b1 b2 fun z => ?_]
    constructor
    · intro hz
      rcases List.mem_cons.1 ((h z).1 (List.mem_cons_of_mem _ hz)) with e | hz2
      · subst e; exact absurd hz (nx l a1)
      · exact hz2
    · intro hz
      rcases List.mem_cons.1 ((h z).2 (List.mem_cons_of_mem _ hz)) with e | hz2
      · subst e; exact absurd hz (nx m a2)
      · exact hz2
theorem mem_ins (a x : List UInt8) : ∀ l, x ∈ ins a l ↔ x = a ∨ x ∈ l
  | [] => by simp [ins]
  | y :: l => by
    unfold ins
    split
    · simp
    · rw [List.mem_cons, mem_ins a x l, List.mem_cons]
      constructor
      · rintro (h | h | h)
        · exact .inr (.inl h)
        · exact .inl h
        · exact .inr (.inr h)
      · rintro (h | h | h)
        · exact .inr (.inl h)
        · exact .inl h
        · exact .inr (.inr h)
theorem ins_rises (a : List UInt8) (ha : a.length = 32) : ∀ l, Rises l → (∀ s ∈ l, s.length = 32) → a ∉ l → Rises (ins a l)
  | [], _, _, _ => by simp [ins, Rises]
  | y :: l, h, h32, hn => by
    obtain ⟨h1, h2⟩ := List.pairwise_cons.1 h
    unfold ins
    split
    · rename_i hl
      refine List.pairwise_cons.2 ⟨fun z hz => ?_, h⟩
      rcases List.mem_cons.1 hz with e | hz
      · rw [e]; exact hl
      · exact lexLess_trans _ _ _ hl (h1 z hz)
    · rename_i hl
      refine List.pairwise_cons.2 ⟨fun z hz => ?_, ins_rises a ha l h2 (fun s hs => h32 s (List.mem_cons_of_mem _ hs)) (fun h => hn (List.mem_cons_of_mem _ h))⟩
      rcases (mem_ins a z l).1 hz with e | hz
      · subst e
        cases hy : lexLess y z with
        | true => rfl
        | false => exact absurd (lexLess_tri z y (by rw [ha, h32 y List.mem_cons_self]) (by simpa using hl) hy) (fun e => hn (e ▸ List.mem_cons_self))
      · exact h1 z hz
theorem putL_rises {l : List (List UInt8)} {a : List UInt8} (h : Rises l) (h32 : ∀ s ∈ l, s.length = 32) (ha : a.length = 32) : Rises (putL l a) := by
  unfold putL
  split
  · exact h
  · rename_i hc
    exact ins_rises a ha l h h32 (by simpa using hc)
theorem mem_putL (l : List (List UInt8)) (a x : List UInt8) : x ∈ putL l a ↔ x = a ∨ x ∈ l := by
  unfold putL
  split
  · rename_i hc
    constructor
    · exact .inr
    · rintro (e | h)
      · rw [e]; simpa using hc
      · exact h
  · exact mem_ins a x l
theorem fold_putL : ∀ (m acc : List (List UInt8)), (∀ s ∈ m, s.length = 32) → (∀ s ∈ acc, s.length = 32) → Rises acc → Rises (m.foldl putL acc) ∧ ∀ x, x ∈ m.foldl putL acc ↔ x ∈ m ∨ x ∈ acc
  | [], acc, _, _, h => ⟨h, fun x => by simp⟩
  | a :: m, acc, h1, h2, h => by
    have ha := h1 a List.mem_cons_self
    obtain ⟨r1, r2⟩ := fold_putL m (putL acc a) (fun s hs => h1 s (List.mem_cons_of_mem _ hs)) (putL_32 h2 ha) (putL_rises h h2 ha)
    refine ⟨r1, fun x => ?_⟩
    rw [List.foldl_cons, r2 x, mem_putL, List.mem_cons]
    constructor
    · rintro (h | h | h)
      · exact .inl (.inr h)
      · exact .inl (.inl h)
      · exact .inr h
    · rintro ((h | h) | h)
      · exact .inr (.inl h)
      · exact .inl h
      · exact .inr (.inr h)
theorem sortL_rises (l : List (List UInt8)) (h : ∀ s ∈ l, s.length = 32) : Rises (sortL l) := (fold_putL l [] h (fun _ h => by cases h) List.Pairwise.nil).1
theorem mem_sortL (l : List (List UInt8)) (h : ∀ s ∈ l, s.length = 32) (x : List UInt8) : x ∈ sortL l ↔ x ∈ l := by
  have := (fold_putL l [] h (fun _ h => by cases h) List.Pairwise.nil).2 x
  simpa [sortL] using this
theorem sortL_32 (l : List (List UInt8)) (h : ∀ s ∈ l, s.length = 32) : ∀ s ∈ sortL l, s.length = 32 := fun s hs => h s ((mem_sortL l h s).1 hs)
end Go.Qk
namespace Go.Proofs.Ytffgifegaagndaa
open Go.RowKit
open Go.Qk hiding rotr b4
theorem merge_law (cnt : Bool → Bool → Bool) : ∀ (n : Nat) (a b : List IdL), a.length + b.length ≤ n → Rises a → Rises b → (∀ s ∈ a, s.length = 32) → (∀ s ∈ b, s.length = 32) →
    Rises (mergeN cnt n a b) ∧ ∀ x, x ∈ mergeN cnt n a b ↔ (x ∈ a ∨ x ∈ b) ∧ cnt (decide (x ∈ a)) (decide (x ∈ b)) = true
  | 0, a, b, hn, _, _, _, _ => by
    obtain rfl : a = [] := List.eq_nil_of_length_eq_zero (by omega)
    obtain rfl : b = [] := List.eq_nil_of_length_eq_zero (by omega)
    exact ⟨List.Pairwise.nil, fun x => by simp [mergeN]⟩
  | n + 1, [], [], _, _, _, _, _ => ⟨List.Pairwise.nil, fun x => by simp [mergeN]⟩
  | n + 1, [], y :: b, hn, h1, h2, g1, g2 => by
    obtain ⟨p, q⟩ := List.pairwise_cons.1 h2
    obtain ⟨r1, r2⟩ := merge_law cnt n [] b (by simp at hn ⊢; omega) h1 q g1 (fun s hs => g2 s (List.mem_cons_of_mem _ hs))
    have hy : y ∉ b := fun h => by have := p y h; rw [lexLess_self] at this; cases this
    have hm : ∀ x ∈ mergeN cnt n [] b, x ∈ b := fun x hx => by have := ((r2 x).1 hx).1; simpa using this
    constructor
    · rw [mergeN]
      split
      · exact List.pairwise_cons.2 ⟨fun z hz => p z (hm z hz), r1⟩
      · exact r1
    · intro x
      rw [mergeN, List.mem_append, r2 x]
      by_cases e : x = y
      · subst e
        cases hc : cnt false true <;> simp [hc, hy]
      · cases hc : cnt false true <;> simp [e]
  | n + 1, x :: a, [], hn, h1, h2, g1, g2 => by
    obtain ⟨p, q⟩ := List.pairwise_cons.1 h1
    obtain ⟨r1, r2⟩ := merge_law cnt n a [] (by simp at hn ⊢; omega) q h2 (fun s hs => g1 s (List.mem_cons_of_mem _ hs)) g2
    have hy : x ∉ a := fun h => by have := p x h; rw [lexLess_self] at this; cases this
    have hm : ∀ z ∈ mergeN cnt n a [], z ∈ a := fun z hz => by have := ((r2 z).1 hz).1; simpa using this
    constructor
    · rw [mergeN]
      split
      · exact List.pairwise_cons.2 ⟨fun z hz => p z (hm z hz), r1⟩
      · exact r1
    · intro z
      rw [mergeN, List.mem_append, r2 z]
      by_cases e : z = x
      · subst e
        cases hc : cnt true false <;> simp [hc, hy]
      · cases hc : cnt true false <;> simp [e]
  | n + 1, x :: a, y :: b, hn, h1, h2, g1, g2 => by
    obtain ⟨p1, q1⟩ := List.pairwise_cons.1 h1
    obtain ⟨p2, q2⟩ := List.pairwise_cons.1 h2
    have hxa : x ∉ a := fun h => by have := p1 x h; rw [lexLess_self] at this; cases this
    have hyb : y ∉ b := fun h => by have := p2 y h; rw [lexLess_self] at this; cases this
    rw [mergeN]
    cases hyx : lexLess y x with
    | true =>
      have hya : y ∉ x :: a := fun h => by
        rcases List.mem_cons.1 h with e | h
        · rw [e, lexLess_self] at hyx; cases hyx
        · have := lexLess_trans _ _ _ hyx (p1 y h); rw [lexLess_self] at this; cases this
      obtain ⟨r1, r2⟩ := merge_law cnt n (x :: a) b (by simp at hn ⊢; omega) h1 q2 g1 (fun s hs => g2 s (List.mem_cons_of_mem _ hs))
      have hm : ∀ z ∈ mergeN cnt n (x :: a) b, lexLess y z = true := fun z hz => by
        rcases ((r2 z).1 hz).1 with h | h
        · rcases List.mem_cons.1 h with e | h
          · rw [e]; exact hyx
          · exact lexLess_trans _ _ _ hyx (p1 z h)
        · exact p2 z h
      constructor
      · rw [if_pos rfl]
        split
        · exact List.pairwise_cons.2 ⟨hm, r1⟩
        · exact r1
      · intro z
        rw [if_pos rfl, List.mem_append, r2 z]
        by_cases e : z = y
        · subst e
          have e1 : decide (z ∈ x :: a) = false := decide_eq_false hya
          have e2 : decide (z ∈ z :: b) = true := decide_eq_true List.mem_cons_self
          have e3 : decide (z ∈ b) = false := decide_eq_false hyb
          rw [e1, e2, e3]
          cases hc : cnt false true <;> simp [hya, hyb]
        · have e2 : (z ∈ y :: b) ↔ z ∈ b := by simp [e]
          have d2 : decide (z ∈ y :: b) = decide (z ∈ b) := decide_eq_decide.2 e2
          rw [d2, e2]
          cases hc : cnt false true <;> simp [e]
    | false =>
      rw [if_neg (by simp)]
      cases hxy : lexLess x y with
      | true =>
        have hxb : x ∉ y :: b := fun h => by
          rcases List.mem_cons.1 h with e | h
          · rw [e, lexLess_self] at hxy; cases hxy
          · have := lexLess_trans _ _ _ hxy (p2 x h); rw [lexLess_self] at this; cases this
        obtain ⟨r1, r2⟩ := merge_law cnt n a (y :: b) (by simp at hn ⊢; omega) q1 h2 (fun s hs => g1 s (List.mem_cons_of_mem _ hs)) g2
        have hm : ∀ z ∈ mergeN cnt n a (y :: b), lexLess x z = true := fun z hz => by
          rcases ((r2 z).1 hz).1 with h | h
          · exact p1 z h
          · rcases List.mem_cons.1 h with e | h
            · rw [e]; exact hxy
            · exact lexLess_trans _ _ _ hxy (p2 z h)
        constructor
        · rw [if_pos rfl]
          split
          · exact List.pairwise_cons.2 ⟨hm, r1⟩
          · exact r1
        · intro z
          rw [if_pos rfl, List.mem_append, r2 z]
          by_cases e : z = x
          · subst e
            have e1 : decide (z ∈ y :: b) = false := decide_eq_false hxb
            have e2 : decide (z ∈ z :: a) = true := decide_eq_true List.mem_cons_self
            have e3 : decide (z ∈ a) = false := decide_eq_false hxa
            rw [e1, e2, e3]
            cases hc : cnt true false <;> simp [hxa, hxb]
          · have e2 : (z ∈ x :: a) ↔ z ∈ a := by simp [e]
            have d2 : decide (z ∈ x :: a) = decide (z ∈ a) := decide_eq_decide.2 e2
            rw [d2, e2]
            cases hc : cnt true false <;> simp [e]
      | false =>
        obtain rfl : x = y := lexLess_tri x y (by rw [g1 x List.mem_cons_self, g2 y List.mem_cons_self]) hxy hyx
        obtain ⟨r1, r2⟩ := merge_law cnt n a b (by simp at hn ⊢; omega) q1 q2 (fun s hs => g1 s (List.mem_cons_of_mem _ hs)) (fun s hs => g2 s (List.mem_cons_of_mem _ hs))
        have hm : ∀ z ∈ mergeN cnt n a b, lexLess x z = true := fun z hz => by
          rcases ((r2 z).1 hz).1 with h | h
          · exact p1 z h
          · exact p2 z h
        constructor
        · rw [if_neg (by simp)]
          split
          · exact List.pairwise_cons.2 ⟨hm, r1⟩
          · exact r1
        · intro z
          rw [if_neg (by simp), List.mem_append, r2 z]
          by_cases e : z = x
          · subst e
            have e1 : decide (z ∈ z :: a) = true := decide_eq_true List.mem_cons_self
            have e2 : decide (z ∈ z :: b) = true := decide_eq_true List.mem_cons_self
            rw [e1, e2]
            cases hc : cnt true true <;> simp [hxa, hyb]
          · have e1 : (z ∈ x :: a) ↔ z ∈ a := by simp [e]
            have e2 : (z ∈ x :: b) ↔ z ∈ b := by simp [e]
            have d1 : decide (z ∈ x :: a) = decide (z ∈ a) := decide_eq_decide.2 e1
            have d2 : decide (z ∈ x :: b) = decide (z ∈ b) := decide_eq_decide.2 e2
            rw [d1, d2, e1, e2]
            cases hc : cnt true true <;> simp [e]
end Go.Proofs.Ytffgifegaagndaa
end
section
/- slices.Equal, id.Same; Union, Minus, Both: contracts. -/
namespace Go.Proofs.Ytffgifegaagndaa
open Go.RowKit
open Go.Qk hiding rotr b4
set_option maxHeartbeats 1000000
set_option maxRecDepth 100000
theorem slicesEqual (A B : Option Addr) (n m c d : Nat) (xs ys : List (List UInt8)) (w : World) (hx : IdRow w A xs) (hy : IdRow w B ys) (hn : xs.length = n) (hm : ys.length = m) (h1 : ∀ s ∈ xs, s.length = 32) (h2 : ∀ s ∈ ys, s.length = 32) :
    Calls Try.prog 141 #[.slice A n c, .slice B m d] w fun e w' => e = .returned (.bool (xs == ys)) ∧ Below w.heap.size w w' := by
  subst hn hm
  have HX := hid hx
  have HY := hid hy
  have H1 := hid h1
  have H2 := hid h2
  have hxl := hx.1
  clear hx hy h1 h2
  by_cases hne : xs.length = ys.length
  · have hyl : ys.length ≤ 9223372036854775807 := by omega
    have t1 : ((xs.length : Int) != (ys.length : Int)) = false := by simp; omega
    have HNE := hid hne
    clear hne
    go_enter Try.func141, Try.ntmps141
    have HB := hid (grow_refl w)
    go_wp2_with fail
    clear t1
    go_loopg [13] (xs.length + 1) (fun q i wr => ∃ k : Nat, k ≤ xs.length ∧ q = xs.length + 1 - k ∧ i = .int .i64 k ∧ Hid (xs.take k = ys.take k) ∧ Hid (Grow w wr))
    case atStart => exact ⟨0, by omega, rfl, rfl, hid rfl, HB⟩
    case round =>
      clear HB
      obtain ⟨k, hk, hq, rfl, HT, HB⟩ := hrel
      by_cases hlt : k < xs.length
      · have k0 : (0 : Int) ≤ (k : Int) := by omega
        have k1 : (k : Int) < (xs.length : Int) := by omega
        have k2 : (k : Int) < (ys.length : Int) := by have := HNE.out; omega
        obtain ⟨ad, rfl, hc⟩ := (HX.out.grow HB.out).at_ k hlt
        obtain ⟨bd, rfl, hd⟩ := (HY.out.grow HB.out).at_ k (by have := HNE.out; omega)
        have HC := hid hc
        have HD := hid hd
        have HS1 := hid (getD_mem_len H1.out hlt)
        have HS2 := hid (getD_mem_len H2.out (show k < ys.length by have := HNE.out; omega))
        have hq1 := fun w => id_neq (xs.getD k []) (ys.getD k []) HS1.out HS2.out w
        have hq2 := id_guard .neq (xs.getD k []) (ys.getD k [])
        have HE := hid (show xs.getD k [] = ys.getD k [] → xs.take (k + 1) = ys.take (k + 1) from fun h => by
          have hlt2 : k < ys.length := by have := HNE.out; omega
          rw [List.take_succ_eq_append_getElem hlt, List.take_succ_eq_append_getElem hlt2, HT.out]
          have e1 : xs.getD k [] = xs[k] := by simp [hlt]
          have e2 : ys.getD k [] = ys[k] := by simp [hlt2]
          rw [← e1, ← e2, h])
        have HF := hid (show xs.getD k [] ≠ ys.getD k [] → (xs == ys) = false from fun h => by
          rw [beq_eq_false_iff_ne]
          rintro rfl
          exact h rfl)
        clear hc hd
        generalize xs.getD k [] = s1 at *
        generalize ys.getD k [] = s2 at *
        go_wp2_with fail
        (refine' wp_region_head 9 0 [_, _, _, _, _, _, _, _, _] rfl (by kernel_rfl) (by kernel_rfl) ?hreg247; case' hreg247 => simp only [List.take_succ_cons, List.take_zero, List.zip_cons_cons, List.zip_nil_right, List.drop_succ_cons, List.drop_zero, List.drop_nil])
        (refine' head_val ?dw248 ?de248 ?dr248 ?dh248; (case' dw248 => rfl); (case' de248 => (first | exact fun _ _ _ => trivial | (intro t ht w; cases ht; simp [upE]))); (case' dr248 => (intro w' hw' _; go_simp; with_reducible rfl)); (case' dh248 => (try simp only [Act.put, List.setIfInBounds_toArray, List.set_cons_zero, List.set_cons_succ]))); (refine' head_val ?dw249 ?de249 ?dr249 ?dh249; (case' dw249 => rfl); (case' de249 => (first | exact fun _ _ _ => trivial | (intro t ht w; cases ht; simp [upE]))); (case' dr249 => (intro w' hw' _; go_simp; with_reducible rfl)); (case' dh249 => (try simp only [Act.put, List.setIfInBounds_toArray, List.set_cons_zero, List.set_cons_succ]))); (refine' head_val ?dw250 ?de250 ?dr250 ?dh250; (case' dw250 => rfl); (case' de250 => (first | exact fun _ _ _ => trivial | (intro t ht w; cases ht; simp [upE]))); (case' dr250 => (intro w' hw' _; go_simp; with_reducible rfl)); (case' dh250 => (try simp only [Act.put, List.setIfInBounds_toArray, List.set_cons_zero, List.set_cons_succ])))
        (refine' head_loadAt (x := _) rfl ?_ rfl rfl (HC.out) (HS1.out) ?_; (first | exact fun _ _ _ => trivial | (intro t ht w; cases ht; simp [upE])); try simp only [Act.put, List.setIfInBounds_toArray, List.set_cons_zero, List.set_cons_succ])
        (refine' head_val ?dw251 ?de251 ?dr251 ?dh251; (case' dw251 => rfl); (case' de251 => (first | exact fun _ _ _ => trivial | (intro t ht w; cases ht; simp [upE]))); (case' dr251 => (intro w' hw' _; go_simp; with_reducible rfl)); (case' dh251 => (try simp only [Act.put, List.setIfInBounds_toArray, List.set_cons_zero, List.set_cons_succ]))); (refine' head_val ?dw252 ?de252 ?dr252 ?dh252; (case' dw252 => rfl); (case' de252 => (first | exact fun _ _ _ => trivial | (intro t ht w; cases ht; simp [upE]))); (case' dr252 => (intro w' hw' _; go_simp; with_reducible rfl)); (case' dh252 => (try simp only [Act.put, List.setIfInBounds_toArray, List.set_cons_zero, List.set_cons_succ]))); (refine' head_val ?dw253 ?de253 ?dr253 ?dh253; (case' dw253 => rfl); (case' de253 => (first | exact fun _ _ _ => trivial | (intro t ht w; cases ht; simp [upE]))); (case' dr253 => (intro w' hw' _; go_simp; with_reducible rfl)); (case' dh253 => (try simp only [Act.put, List.setIfInBounds_toArray, List.set_cons_zero, List.set_cons_succ])))
        (refine' head_loadAt (x := _) rfl ?_ rfl rfl (HD.out) (HS2.out) ?_; (first | exact fun _ _ _ => trivial | (intro t ht w; cases ht; simp [upE])); try simp only [Act.put, List.setIfInBounds_toArray, List.set_cons_zero, List.set_cons_succ])
        (refine' head_val ?dw254 ?de254 ?dr254 ?dh254; (case' dw254 => rfl); (case' de254 => (first | exact fun _ _ _ => trivial | (intro t ht w; cases ht; simp [upE]))); (case' dr254 => (intro w' hw' _; go_simp; with_reducible rfl)); (case' dh254 => (try simp only [Act.put, List.setIfInBounds_toArray, List.set_cons_zero, List.set_cons_succ])))
        refine head_nil ?_
        intro w1 hb _
        refine wpList_nil ?_
        have HB1 := hid (Grow.trans HB.out hb)
        clear hb hq1 hq2
        generalize hz : (!(s1 == s2)) = z
        cases z with
        | false =>
          have HE2 := hid (HE.out (by simpa using hz))
          clear hz HE HF
          go_wp2
          go_roundg (xs.length + 1 - (k + 1))
          case rel => exact ⟨k + 1, by omega, rfl, by go_num, HE2, HB1⟩
          case measure => omega
        | true =>
          have HF2 := hid (HF.out (by simpa using hz))
          clear hz HE HF
          go_wp2
          go_ret
          exact ⟨ret_bool HF2.out.symm, HB1.out⟩
      · obtain rfl : k = xs.length := by omega
        have HF := hid (show (xs == ys) = true by
          have := HT.out
          rw [List.take_length, HNE.out, List.take_length] at this
          rw [this, beq_self_eq_true])
        go_wp2
        go_ret
        exact ⟨ret_bool HF.out.symm, HB.out⟩
  · have t1 : ((xs.length : Int) != (ys.length : Int)) = true := by simp; omega
    have HF := hid (show (xs == ys) = false by rw [beq_eq_false_iff_ne]; rintro rfl; exact hne rfl)
    go_enter Try.func141, Try.ntmps141
    have HB := hid (grow_refl w)
    go_wp2
    go_ret
    exact ⟨ret_bool HF.out.symm, HB.out⟩
theorem idSame (A B : Option Addr) (n m c d : Nat) (xs ys : List (List UInt8)) (w : World) (hx : IdRow w A xs) (hy : IdRow w B ys) (hn : xs.length = n) (hm : ys.length = m) (h1 : ∀ s ∈ xs, s.length = 32) (h2 : ∀ s ∈ ys, s.length = 32) :
    Calls Try.prog 111 #[.slice A n c, .slice B m d] w fun e w' => e = .returned (.bool (xs == ys)) ∧ Below w.heap.size w w' := by
  go_enter Try.func111, Try.ntmps111
  have HB := hid (grow_refl w)
  go_wp2_with fail
  refine (slicesEqual A B n m c d xs ys _ (hx.grow HB.out) (hy.grow HB.out) hn hm h1 h2).mono ?_
  rintro e w1 ⟨rfl, hb⟩
  replace HB := hid (Grow.trans HB.out hb)
  clear hb
  go_wp2_with fail
  go_ret
  exact ⟨rfl, HB.out⟩
def unionL (xs ys : List (List UInt8)) : List (List UInt8) := mergeN (fun _ _ => true) (xs.length + ys.length) xs ys
def minusL (xs ys : List (List UInt8)) : List (List UInt8) := mergeN (fun f s => f && !s) (xs.length + ys.length) xs ys
def bothL (xs ys : List (List UInt8)) : List (List UInt8) := mergeN (fun f s => f && s) (xs.length + ys.length) xs ys
theorem idUnion (A B : Option Addr) (n1 n2 ca cb : Nat) (xs ys : List IdL) (hn1 : xs.length = n1) (hn2 : ys.length = n2) (w : World) (hx : IdRow w A xs) (hy : IdRow w B ys) (h32 : ∀ s ∈ xs, s.length = 32) (g32 : ∀ s ∈ ys, s.length = 32) (hca : xs.length ≤ ca) (hcb : ys.length ≤ cb) (hmax : xs.length + ys.length ≤ 1000000) :
    Calls Try.prog 117 #[.slice A n1 ca, .slice B n2 cb] w (RetRow w.heap.size w (unionL xs ys)) := by
  go_enter Try.func117, Try.ntmps117
  have HB := hid (grow_refl w)
  go_wp2_with fail
  refine (idMerge (fun _ _ => true) _ ent_union unionCnt A B n1 n2 ca cb xs ys hn1 hn2 _ hx hy h32 g32 hca hcb hmax).mono ?_
  rintro e w1 ⟨v, rfl, ho, hb⟩
  have HO := hid ho
  have HB1 := hid hb
  clear ho hb
  go_wp2_with fail
  go_ret
  exact ⟨_, rfl, HO.out, HB1.out⟩
end Go.Proofs.Ytffgifegaagndaa
end
section
/- Rows of ids appended whole; rows of two ids; ids of one byte. -/
namespace Go.Qk
open Go.RowKit
theorem idCells_at (xs : List (List UInt8)) (h : ∀ s ∈ xs, s.length = 32) (j : Nat) (u : Value) (hj : (idCells xs)[j]? = some u) : j / 32 < xs.length ∧ (u8s (xs.getD (j / 32) []))[j % 32]? = some u := by
  have hl := (List.getElem?_eq_some_iff.1 hj).1
  rw [idCells_length xs h] at hl
  have hi : j / 32 < xs.length := by omega
  have h32 : (xs.getD (j / 32) []).length = 32 := h _ (by simp [hi])
  have hr : j % 32 < (u8s (xs.getD (j / 32) [])).length := by rw [u8s_length, h32]; omega
  have hv := List.getElem?_eq_getElem hr
  have hc := idCells_get xs h (j / 32) hi (j % 32) _ hv
  rw [show j / 32 * 32 + j % 32 = j by omega] at hc
  rw [hc] at hj
  exact ⟨hi, by rw [hv]; exact hj⟩
theorem idRow_cells {w : World} {ad : Addr} {xs : List (List UInt8)} (h : IdRow w (some ad) xs) (h32 : ∀ s ∈ xs, s.length = 32) (j : Nat) (u : Value) (hj : (idCells xs)[j]? = some u) : w.cell? (ad.add j) = some u := by
  obtain ⟨hi, hc⟩ := idCells_at xs h32 j u hj
  obtain ⟨ad', e, hh⟩ := h.at_ _ hi
  obtain rfl := Option.some.inj e
  have := hh _ _ hc
  rw [addr_add_add, show j / 32 * 32 + j % 32 = j by omega] at this
  exact this
theorem cells_idRow {w : World} {ad : Addr} {xs : List (List UInt8)} (h32 : ∀ s ∈ xs, s.length = 32) (hl : xs.length ≤ 9223372036854775807) (h : ∀ j u, (idCells xs)[j]? = some u → w.cell? (ad.add j) = some u) : IdRow w (some ad) xs :=
  ⟨hl, fun _ => ⟨ad, rfl, fun i hi j v hv => by rw [addr_add_add]; exact h _ _ (idCells_get xs h32 i hi j v hv)⟩⟩
end Go.Qk
namespace Go.Proofs.Ytffgifegaagndaa
open Go.RowKit
open Go.Qk hiding rotr b4
set_option maxHeartbeats 1000000
set_option maxRecDepth 100000
section
variable {ops : Array Oper} {Q : Exit → Act → World → Prop} {rest : List Oper} {o o2 : Oper} {a : Act} {w : World}
theorem run_app_none {B : Nat} {v : Value} {n : Nat} {xs : List Value} (hown : w.ownsRow B 23 32 v n xs) (c : Nat) (ty : TypeId) : (Builtin.append_ #[24, 24] ty #[v, .slice none 0 c]).run Try.prog w = .ok v w := by
  obtain ⟨i, i1, i2, i3, i4⟩ := info_parts infoId
  rcases hown.2 with ⟨rfl, rfl⟩ | ⟨g, cap, cur, rfl, _, _, hnc, _⟩
  · simp [Builtin.append_, run_underlying Try.underlying24, sizeOf, typeInfo, i1, Builtin.lenOf, Builtin.firstCells]
  · simp [Builtin.append_, run_underlying Try.underlying24, sizeOf, typeInfo, i1, Builtin.lenOf, Builtin.firstCells, hnc, storeCells]
/-- append(out, xs...). -/
theorem op_appRow {x y : Operand} {v : Value} {ys xs : List (List UInt8)} {A : Option Addr} {c : Nat} {B : Nat} {w0 : World} (hgd : o.guard = none) (ho : o.op = .call { callee := .builtin .append, args := #[x, y], argTypes := #[24, 24] })
    (hx : a.eval x = v) (hy : a.eval y = .slice A xs.length c) (hown : OwnIds 23 B w v ys) (hr : IdRow w A xs) (h32 : ∀ s ∈ xs, s.length = 32) (hb : Below B w0 w) (hB : B ≤ w.heap.size) (hlen : ys.length + xs.length ≤ 1000000000)
    (h : ∀ v' w', OwnIds 23 B w' v' (ys ++ xs) → Below B w0 w' → B ≤ w'.heap.size → wpList Try.prog ops Q rest (a.put o.dst v') w') : wpList Try.prog ops Q (o :: rest) a w := by
  cases A with
  | none =>
    have hxs : xs = [] := by
      by_cases e : xs = []
      · exact e
      · obtain ⟨_, e2, _⟩ := hr.2 e
        cases e2
    subst hxs
    refine wpList_val (v := v) (w' := w) hgd ?_ (h v w (by simpa using hown) hb hB)
    unfold execOp
    simp only [ho, resolve, invoke, builtin, Sem.run_bind, Sem.run_pure, Result.andThen_ok, List.map_toArray, List.map_cons, List.map_nil, hx, hy, List.length_nil, run_app_none hown.1]
  | some ad =>
    refine app_cells (P := Try.prog) (w0 := w0) (B := B) x y 24 23 (idV (zero8 32)) 32 32 v ys.length (idCells ys) (idCells xs) ad xs.length c hgd ho Try.underlying24 infoId (by simp [idV_cells, u8s_length, zero8]) (by omega) hx hy (idCells_length xs h32) (idRow_cells hr h32) (idCells_one xs) hown.1 hb hB (by omega) (by omega) ?_
    intro v' w' h1 h2 h3
    refine h v' w' ⟨?_, fun s hs => ?_⟩ h2 h3
    · rw [List.length_append, idCells_append]
      exact h1
    · rcases List.mem_append.1 hs with hs | hs
      · exact hown.2 s hs
      · exact h32 s hs
/-- []api.Id{a, b}. -/
theorem op_rowIds2 {l1 l2 : List UInt8} {y1 y2 : Operand} (hgd : o.guard = none) (ho : o.op = .buildSlice 24 2 #[(0, y1), (1, y2)]) (h1 : a.eval y1 = idV l1) (h2 : a.eval y2 = idV l2) (hl1 : l1.length = 32) (hl2 : l2.length = 32)
    (h : ∀ ad W, Grow w W → IdRow W (some ad) [l1, l2] → wpList Try.prog ops Q rest (a.put o.dst (.slice (some ad) 2 2)) W) : wpList Try.prog ops Q (o :: rest) a w := by
  have h32 : ∀ s ∈ [l1, l2], s.length = 32 := fun s hs => by simp at hs; rcases hs with hs | hs <;> rw [hs] <;> assumption
  have hr := run_buildIds w [l1, l2] 2 rfl (by omega) (by omega) h32
  have hp : #[(0, y1), (1, y2)].map (fun (i, y) => (i, a.eval y)) = ((([l1, l2].map idV).zipIdx 0).map Prod.swap).toArray := by simp [h1, h2]
  refine wpList_val (v := .slice (some ⟨w.heap.size, 0, none⟩) 2 2) (w' := w.alloc (.cells (idCells [l1, l2]).toArray 23)) hgd ?_ (h _ _ (grow_alloc _ _) (cells_idRow h32 (by simp) (fun j u hj => cells_new w _ _ j u hj)))
  unfold execOp
  simp only [ho, hp, Sem.run_bind, Sem.run_pure, Result.andThen_ok, hr]
theorem opG_loadAt {x : Operand} {ad : Addr} {l : List UInt8} (ho : o.op = .load 23 x) (hw : Region.wanted o (yielded ops a.tmps) = true) (hx : a.eval x = .pointer (some ad)) (hc : ∀ j v, (u8s l)[j]? = some v → w.cell? (ad.add j) = some v) (hl : l.length = 32)
    (h : wpList Try.prog ops Q rest (a.put o.dst (idV l)) w) : wpList Try.prog ops Q (o :: rest) a w := by
  refine wpList_want (v := idV l) (w' := w) hw ?_ h
  unfold execOp
  simp only [ho, hx, Sem.run_bind, Sem.run_pure, Result.andThen_ok, run_loadIdAt hc hl]
def id1 (b : UInt8) : List UInt8 := b :: zero8 31
theorem run_build1 (w : World) : (Instr.build 23 #[(0, .int .u8 1)]).run Try.prog w = .ok (idV (id1 1)) w := by kernel_rfl
theorem run_build2 (w : World) : (Instr.build 23 #[(0, .int .u8 2)]).run Try.prog w = .ok (idV (id1 2)) w := by kernel_rfl
theorem run_build3 (w : World) : (Instr.build 23 #[(0, .int .u8 3)]).run Try.prog w = .ok (idV (id1 3)) w := by kernel_rfl
theorem opG_build1 (ho : o.op = .build 23 #[(0, .const (.int .u8 1))]) (hw : Region.wanted o (yielded ops a.tmps) = true) (h : wpList Try.prog ops Q rest (a.put o.dst (idV (id1 1))) w) : wpList Try.prog ops Q (o :: rest) a w := by
  refine wpList_want (v := idV (id1 1)) (w' := w) hw ?_ h
  have e : a.eval (.const (.int .u8 1)) = .int .u8 1 := rfl
  unfold execOp
  simp only [ho, e, List.map_toArray, List.map_cons, List.map_nil, Sem.run_bind, Sem.run_pure, Result.andThen_ok, run_build1]
theorem opG_build2 (ho : o.op = .build 23 #[(0, .const (.int .u8 2))]) (hw : Region.wanted o (yielded ops a.tmps) = true) (h : wpList Try.prog ops Q rest (a.put o.dst (idV (id1 2))) w) : wpList Try.prog ops Q (o :: rest) a w := by
  refine wpList_want (v := idV (id1 2)) (w' := w) hw ?_ h
  have e : a.eval (.const (.int .u8 2)) = .int .u8 2 := rfl
  unfold execOp
  simp only [ho, e, List.map_toArray, List.map_cons, List.map_nil, Sem.run_bind, Sem.run_pure, Result.andThen_ok, run_build2]
theorem opG_build3 (ho : o.op = .build 23 #[(0, .const (.int .u8 3))]) (hw : Region.wanted o (yielded ops a.tmps) = true) (h : wpList Try.prog ops Q rest (a.put o.dst (idV (id1 3))) w) : wpList Try.prog ops Q (o :: rest) a w := by
  refine wpList_want (v := idV (id1 3)) (w' := w) hw ?_ h
  have e : a.eval (.const (.int .u8 3)) = .int .u8 3 := rfl
  unfold execOp
  simp only [ho, e, List.map_toArray, List.map_cons, List.map_nil, Sem.run_bind, Sem.run_pure, Result.andThen_ok, run_build3]
end
theorem union_ex : unionL [id1 1, id1 3] [id1 2, id1 3] = [id1 1, id1 2, id1 3] := by decide +kernel
theorem id1_length (b : UInt8) : (id1 b).length = 32 := rfl
theorem awake04 (w : World) : Calls Try.prog 58 #[] w fun e w' => e = .returned (.bool true) ∧ Below w.heap.size w w' := by
  have HU := hid union_ex
  go_enter Try.func58, Try.ntmps58
  have HB := hid (grow_refl w)
  go_wp2_with (first | (refine opG_build1 rfl rfl ?_) | (refine opG_build3 rfl rfl ?_) | (refine op_rowIds2 (l1 := id1 1) (l2 := id1 3) rfl rfl rfl rfl rfl rfl ?_))
  intro ad1 w1 hb hr
  replace HB := hid (Grow.trans HB.out hb)
  clear hb
  have R1 := hid hr
  clear hr
  go_wp2_with (first | (refine opG_build2 rfl rfl ?_) | (refine opG_build3 rfl rfl ?_) | (refine op_rowIds2 (l1 := id1 2) (l2 := id1 3) rfl rfl rfl rfl rfl rfl ?_))
  intro ad2 w2 hb hr
  replace HB := hid (Grow.trans HB.out hb)
  replace R1 := hid (R1.out.grow hb)
  clear hb
  have R2 := hid hr
  clear hr
  go_wp2_with fail
  refine (idUnion _ _ 2 2 2 2 [id1 1, id1 3] [id1 2, id1 3] rfl rfl _ R1.out R2.out (fun s hs => by simp at hs; rcases hs with rfl | rfl <;> rfl) (fun s hs => by simp at hs; rcases hs with rfl | rfl <;> rfl) (Nat.le_refl _) (Nat.le_refl _) (by simp)).mono ?_
  rintro e w3 ⟨v, rfl, ho, hb⟩
  rw [HU.out] at ho
  replace HB := hid (Grow.trans HB.out hb)
  clear hb
  obtain ⟨⟨A3, c3, rfl, hr⟩, _⟩ := ho.sl
  obtain ⟨ad, rfl, h0⟩ := hr.at_ 0 (by simp)
  obtain ⟨_, e1, h1⟩ := hr.at_ 1 (by simp)
  obtain rfl := Option.some.inj e1
  obtain ⟨_, e2, h2⟩ := hr.at_ 2 (by simp)
  obtain rfl := Option.some.inj e2
  have K0 := hid h0
  have K1 := hid h1
  have K2 := hid h2
  have hq1 := id_eql_self (id1 1) rfl
  have hq2 := id_eql_self (id1 2) rfl
  have hq3 := id_eql_self (id1 3) rfl
  have hg1 := id_guard .eql (id1 1) (id1 1)
  have hg2 := id_guard .eql (id1 2) (id1 2)
  have hg3 := id_guard .eql (id1 3) (id1 3)
  clear ho hr h0 h1 h2 e1 e2
  go_wp2_with (first | (refine opG_build1 rfl rfl ?_) | (refine opG_build2 rfl rfl ?_) | (refine opG_build3 rfl rfl ?_) | (refine opG_loadAt (l := id1 1) rfl rfl rfl K0.out rfl ?_) | (refine opG_loadAt (l := id1 2) rfl rfl rfl K1.out rfl ?_) | (refine opG_loadAt (l := id1 3) rfl rfl rfl K2.out rfl ?_))
  go_ret
  exact ⟨rfl, HB.out⟩
end Go.Proofs.Ytffgifegaagndaa
end
