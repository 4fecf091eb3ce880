/- id.merge: contract. -/
import Derived.Test.YtkibibgbmkejjaaQSet0
import Derived.Test.YtkibibgbmkejjaaQPick
set_option linter.unusedSimpArgs false
set_option linter.unusedVariables false
namespace Go.Proofs.Ytkibibgbmkejjaa
open Go.RowKit
open Go.Qk hiding rotr b4
set_option maxHeartbeats 2000000
set_option maxRecDepth 100000
abbrev IdL := List UInt8
/-- Two rows, gone through; what counts is kept. -/
def mergeN (cnt : Bool → Bool → Bool) : Nat → List IdL → List IdL → List IdL
  | 0, _, _ => []
  | _ + 1, [], [] => []
  | n + 1, [], y :: b => (if cnt false true then [y] else []) ++ mergeN cnt n [] b
  | n + 1, x :: a, [] => (if cnt true false then [x] else []) ++ mergeN cnt n a []
  | n + 1, x :: a, y :: b =>
    if lexLess y x then (if cnt false true then [y] else []) ++ mergeN cnt n (x :: a) b
    else if lexLess x y then (if cnt true false then [x] else []) ++ mergeN cnt n a (y :: b)
    else (if cnt true true then [x] else []) ++ mergeN cnt n a b
theorem mergeN_nil (cnt : Bool → Bool → Bool) (n : Nat) : mergeN cnt n [] [] = [] := by cases n <;> rfl
theorem idMerge (cnt : Bool → Bool → Bool) (f : FuncId) (hent : ∀ args w, (callFunc f args).run Try.prog w = .ok (.enter f args) w) (hf : ∀ x y w, Calls Try.prog f (#[.bool x, .bool y] ++ #[]) w fun e w' => e = .returned (.bool (cnt x y)) ∧ Below w.heap.size w w')
    (A B : Option Addr) (n1 n2 ca cb : Nat) (xs ys : List IdL) (hn1 : xs.length = n1) (hn2 : ys.length = n2) (w : World) (hx : IdRow w A xs) (hy : IdRow w B ys) (h32 : ∀ s ∈ xs, s.length = 32) (g32 : ∀ s ∈ ys, s.length = 32) (hca : xs.length ≤ ca) (hcb : ys.length ≤ cb) (hmax : xs.length + ys.length ≤ 1000000) :
    Calls Try.prog 102 #[.slice A n1 ca, .slice B n2 cb, .func (.func f) #[] #[]] w (RetRow w.heap.size w (mergeN cnt (xs.length + ys.length) xs ys)) := by
  subst hn1 hn2
  have HX := hid hx
  have HY := hid hy
  have HE := hid hent
  have HF := hid hf
  have H1 := hid h32
  have H2 := hid g32
  have HC1 := hid hca
  have HC2 := hid hcb
  have HMX := hid (show ([] : List IdL).length + (xs.length + ys.length) ≤ 1000000 by simpa using hmax)
  clear hx hy hent hf h32 g32 hca hcb hmax
  go_enter Try.func102, Try.ntmps102
  have HB := hid (grow_refl w)
  go_wp2_with fail
  have HO := hid (show OwnIds 23 w.heap.size w (.slice none 0 0) [] from ⟨World.ownsRow_nil _ _ _ _, fun _ h => by cases h⟩)
  go_loopg [0, 1, 7] (xs.length + ys.length + 1) (fun q va vb vo wr => ∃ (n : Nat) (a b : List IdL) (A' B' : Option Addr) (ca' cb' : Nat) (o : List IdL), q = n + 1 ∧ Hid (a.length + b.length ≤ n) ∧ va = .slice A' a.length ca' ∧ vb = .slice B' b.length cb' ∧
    Hid (o ++ mergeN cnt n a b = mergeN cnt (xs.length + ys.length) xs ys) ∧ Hid (IdRow w A' a) ∧ Hid (IdRow w B' b) ∧ Hid (∀ s ∈ a, s.length = 32) ∧ Hid (∀ s ∈ b, s.length = 32) ∧ Hid (a.length ≤ ca') ∧ Hid (b.length ≤ cb') ∧ Hid (o.length + (a.length + b.length) ≤ 1000000) ∧ Hid (OwnIds 23 w.heap.size wr vo o) ∧ Hid (Grow w wr))
  case atStart => exact ⟨xs.length + ys.length, xs, ys, A, B, ca, cb, [], rfl, hid (Nat.le_refl _), rfl, rfl, hid rfl, HX, HY, H1, H2, HC1, HC2, HMX, HO, HB⟩
  case round =>
    clear HX HY H1 H2 HC1 HC2 HMX HO HB
    obtain ⟨n, a, b, A', B', ca', cb', o, hq, HN, rfl, rfl, HM, HX, HY, H1, H2, HC1, HC2, HMX, HO, HG⟩ := hrel
    cases a with
    | nil =>
      cases b with
      | nil =>
        go_wp2_with fail
        go_ret
        have h := HM.out
        rw [mergeN_nil, List.append_nil] at h
        rw [← h]
        exact ⟨_, rfl, HO.out, HG.out⟩
      | cons y b =>
        obtain ⟨m, rfl⟩ : ∃ m, n = m + 1 := ⟨n - 1, by have := HN.out; simp at this; omega⟩
        try simp only [List.length_cons]
        obtain ⟨bd, rfl, hcb⟩ := HY.out.at_ 0 (by simp)
        have HCy := hid hcb
        have Hy32 := hid (show y.length = 32 from H2.out _ List.mem_cons_self)
        have HYt := hid (idRow_tail HY.out (by have := HC2.out; simpa using this))
        have H2t := hid (show ∀ s ∈ b, s.length = 32 from fun s hs => H2.out s (List.mem_cons_of_mem _ hs))
        have HC2t := hid (show b.length ≤ cb' - 1 by have := HC2.out; simp at this; omega)
        have hsb := run_tail (ad := bd) (n := b.length + 1) (c := cb') (by omega)
        simp only [Nat.add_sub_cancel] at hsb
        clear hcb
        have tb1 : (0 : Int) < (b.length : Int) + 1 := by omega
        have tb2 : ((b.length : Int) + 1 == 0) = false := by simp; omega
        have tb3 : decide ((0 : Int) < (b.length : Int) + 1) = true := decide_eq_true (by omega)
        go_wp2_with fail
        (refine' wp_region_head 19 0 [_, _, _, _, _, _, _, _, _, _, _, _, _, _, _, _, _, _, _] rfl (by kernel_rfl) (by kernel_rfl) ?hreg1; case' hreg1 => simp only [List.take_succ_cons, List.take_zero, List.zip_cons_cons, List.zip_nil_right, List.drop_succ_cons, List.drop_zero, List.drop_nil])
        (refine' head_val ?dw2 ?de2 ?dr2 ?dh2; (case' dw2 => rfl); (case' de2 => (first | exact fun _ _ _ => trivial | (intro t ht w; cases ht; simp [upE]))); (case' dr2 => (intro w' hw' _; go_simp; with_reducible rfl)); (case' dh2 => (try simp only [Act.put, List.setIfInBounds_toArray, List.set_cons_zero, List.set_cons_succ]))); (refine' head_val ?dw3 ?de3 ?dr3 ?dh3; (case' dw3 => rfl); (case' de3 => (first | exact fun _ _ _ => trivial | (intro t ht w; cases ht; simp [upE]))); (case' dr3 => (intro w' hw' _; go_simp; with_reducible rfl)); (case' dh3 => (try simp only [Act.put, List.setIfInBounds_toArray, List.set_cons_zero, List.set_cons_succ]))); (refine' head_val ?dw4 ?de4 ?dr4 ?dh4; (case' dw4 => rfl); (case' de4 => (first | exact fun _ _ _ => trivial | (intro t ht w; cases ht; simp [upE]))); (case' dr4 => (intro w' hw' _; go_simp; with_reducible rfl)); (case' dh4 => (try simp only [Act.put, List.setIfInBounds_toArray, List.set_cons_zero, List.set_cons_succ]))); (refine' head_val ?dw5 ?de5 ?dr5 ?dh5; (case' dw5 => rfl); (case' de5 => (first | exact fun _ _ _ => trivial | (intro t ht w; cases ht; simp [upE]))); (case' dr5 => (intro w' hw' _; go_simp; with_reducible rfl)); (case' dh5 => (try simp only [Act.put, List.setIfInBounds_toArray, List.set_cons_zero, List.set_cons_succ])))
        (refine' head_skip (V := fun _ _ => True) ?sw6 ?se6 ?sh6; (case' sw6 => rfl); (case' se6 => (first | exact fun _ _ _ => trivial | (intro t ht w; cases ht; simp [upE]))); (case' sh6 => (try simp only [Act.put, List.setIfInBounds_toArray, List.set_cons_zero, List.set_cons_succ]))); (refine' head_skip (V := fun _ _ => True) ?sw7 ?se7 ?sh7; (case' sw7 => rfl); (case' se7 => (first | exact fun _ _ _ => trivial | (intro t ht w; cases ht; simp [upE]))); (case' sh7 => (try simp only [Act.put, List.setIfInBounds_toArray, List.set_cons_zero, List.set_cons_succ]))); (refine' head_skip (V := fun _ _ => True) ?sw8 ?se8 ?sh8; (case' sw8 => rfl); (case' se8 => (first | exact fun _ _ _ => trivial | (intro t ht w; cases ht; simp [upE]))); (case' sh8 => (try simp only [Act.put, List.setIfInBounds_toArray, List.set_cons_zero, List.set_cons_succ]))); (refine' head_skip (V := fun _ _ => True) ?sw9 ?se9 ?sh9; (case' sw9 => rfl); (case' se9 => (first | exact fun _ _ _ => trivial | (intro t ht w; cases ht; simp [upE]))); (case' sh9 => (try simp only [Act.put, List.setIfInBounds_toArray, List.set_cons_zero, List.set_cons_succ]))); (refine' head_skip (V := fun _ _ => True) ?sw10 ?se10 ?sh10; (case' sw10 => rfl); (case' se10 => (first | exact fun _ _ _ => trivial | (intro t ht w; cases ht; simp [upE]))); (case' sh10 => (try simp only [Act.put, List.setIfInBounds_toArray, List.set_cons_zero, List.set_cons_succ]))); (refine' head_skip (V := fun _ _ => True) ?sw11 ?se11 ?sh11; (case' sw11 => rfl); (case' se11 => (first | exact fun _ _ _ => trivial | (intro t ht w; cases ht; simp [upE]))); (case' sh11 => (try simp only [Act.put, List.setIfInBounds_toArray, List.set_cons_zero, List.set_cons_succ]))); (refine' head_skip (V := fun _ _ => True) ?sw12 ?se12 ?sh12; (case' sw12 => rfl); (case' se12 => (first | exact fun _ _ _ => trivial | (intro t ht w; cases ht; simp [upE]))); (case' sh12 => (try simp only [Act.put, List.setIfInBounds_toArray, List.set_cons_zero, List.set_cons_succ]))); (refine' head_skip (V := fun _ _ => True) ?sw13 ?se13 ?sh13; (case' sw13 => rfl); (case' se13 => (first | exact fun _ _ _ => trivial | (intro t ht w; cases ht; simp [upE]))); (case' sh13 => (try simp only [Act.put, List.setIfInBounds_toArray, List.set_cons_zero, List.set_cons_succ]))); (refine' head_skip (V := fun _ _ => True) ?sw14 ?se14 ?sh14; (case' sw14 => rfl); (case' se14 => (first | exact fun _ _ _ => trivial | (intro t ht w; cases ht; simp [upE]))); (case' sh14 => (try simp only [Act.put, List.setIfInBounds_toArray, List.set_cons_zero, List.set_cons_succ]))); (refine' head_skip (V := fun _ _ => True) ?sw15 ?se15 ?sh15; (case' sw15 => rfl); (case' se15 => (first | exact fun _ _ _ => trivial | (intro t ht w; cases ht; simp [upE]))); (case' sh15 => (try simp only [Act.put, List.setIfInBounds_toArray, List.set_cons_zero, List.set_cons_succ]))); (refine' head_skip (V := fun _ _ => True) ?sw16 ?se16 ?sh16; (case' sw16 => rfl); (case' se16 => (first | exact fun _ _ _ => trivial | (intro t ht w; cases ht; simp [upE]))); (case' sh16 => (try simp only [Act.put, List.setIfInBounds_toArray, List.set_cons_zero, List.set_cons_succ]))); (refine' head_skip (V := fun _ _ => True) ?sw17 ?se17 ?sh17; (case' sw17 => rfl); (case' se17 => (first | exact fun _ _ _ => trivial | (intro t ht w; cases ht; simp [upE]))); (case' sh17 => (try simp only [Act.put, List.setIfInBounds_toArray, List.set_cons_zero, List.set_cons_succ]))); (refine' head_skip (V := fun _ _ => True) ?sw18 ?se18 ?sh18; (case' sw18 => rfl); (case' se18 => (first | exact fun _ _ _ => trivial | (intro t ht w; cases ht; simp [upE]))); (case' sh18 => (try simp only [Act.put, List.setIfInBounds_toArray, List.set_cons_zero, List.set_cons_succ])))
        (refine' head_val ?dw19 ?de19 ?dr19 ?dh19; (case' dw19 => rfl); (case' de19 => (first | exact fun _ _ _ => trivial | (intro t ht w; cases ht; simp [upE]))); (case' dr19 => (intro w' hw' _; go_simp; with_reducible rfl)); (case' dh19 => (try simp only [Act.put, List.setIfInBounds_toArray, List.set_cons_zero, List.set_cons_succ]))); (refine' head_val ?dw20 ?de20 ?dr20 ?dh20; (case' dw20 => rfl); (case' de20 => (first | exact fun _ _ _ => trivial | (intro t ht w; cases ht; simp [upE]))); (case' dr20 => (intro w' hw' _; go_simp; with_reducible rfl)); (case' dh20 => (try simp only [Act.put, List.setIfInBounds_toArray, List.set_cons_zero, List.set_cons_succ])))
        refine head_nil ?_
        intro w3 hb _
        refine wpList_nil ?_
        replace HO := hid (HO.out.grow hb)
        replace HG := hid (Grow.trans HG.out hb)
        clear hb
        go_wp2_with fail
        (refine' wp_region_head 19 0 [_, _, _, _, _, _, _, _, _, _, _, _, _, _, _, _, _, _, _] rfl (by kernel_rfl) (by kernel_rfl) ?hreg21; case' hreg21 => simp only [List.take_succ_cons, List.take_zero, List.zip_cons_cons, List.zip_nil_right, List.drop_succ_cons, List.drop_zero, List.drop_nil])
        (refine' head_val ?dw22 ?de22 ?dr22 ?dh22; (case' dw22 => rfl); (case' de22 => (first | exact fun _ _ _ => trivial | (intro t ht w; cases ht; simp [upE]))); (case' dr22 => (intro w' hw' _; go_simp; with_reducible rfl)); (case' dh22 => (try simp only [Act.put, List.setIfInBounds_toArray, List.set_cons_zero, List.set_cons_succ]))); (refine' head_val ?dw23 ?de23 ?dr23 ?dh23; (case' dw23 => rfl); (case' de23 => (first | exact fun _ _ _ => trivial | (intro t ht w; cases ht; simp [upE]))); (case' dr23 => (intro w' hw' _; go_simp; with_reducible rfl)); (case' dh23 => (try simp only [Act.put, List.setIfInBounds_toArray, List.set_cons_zero, List.set_cons_succ]))); (refine' head_val ?dw24 ?de24 ?dr24 ?dh24; (case' dw24 => rfl); (case' de24 => (first | exact fun _ _ _ => trivial | (intro t ht w; cases ht; simp [upE]))); (case' dr24 => (intro w' hw' _; go_simp; with_reducible rfl)); (case' dh24 => (try simp only [Act.put, List.setIfInBounds_toArray, List.set_cons_zero, List.set_cons_succ]))); (refine' head_val ?dw25 ?de25 ?dr25 ?dh25; (case' dw25 => rfl); (case' de25 => (first | exact fun _ _ _ => trivial | (intro t ht w; cases ht; simp [upE]))); (case' dr25 => (intro w' hw' _; go_simp; with_reducible rfl)); (case' dh25 => (try simp only [Act.put, List.setIfInBounds_toArray, List.set_cons_zero, List.set_cons_succ]))); (refine' head_val ?dw26 ?de26 ?dr26 ?dh26; (case' dw26 => rfl); (case' de26 => (first | exact fun _ _ _ => trivial | (intro t ht w; cases ht; simp [upE]))); (case' dr26 => (intro w' hw' _; go_simp; with_reducible rfl)); (case' dh26 => (try simp only [Act.put, List.setIfInBounds_toArray, List.set_cons_zero, List.set_cons_succ]))); (refine' head_val ?dw27 ?de27 ?dr27 ?dh27; (case' dw27 => rfl); (case' de27 => (first | exact fun _ _ _ => trivial | (intro t ht w; cases ht; simp [upE]))); (case' dr27 => (intro w' hw' _; go_simp; with_reducible rfl)); (case' dh27 => (try simp only [Act.put, List.setIfInBounds_toArray, List.set_cons_zero, List.set_cons_succ]))); (refine' head_val ?dw28 ?de28 ?dr28 ?dh28; (case' dw28 => rfl); (case' de28 => (first | exact fun _ _ _ => trivial | (intro t ht w; cases ht; simp [upE]))); (case' dr28 => (intro w' hw' _; go_simp; with_reducible rfl)); (case' dh28 => (try simp only [Act.put, List.setIfInBounds_toArray, List.set_cons_zero, List.set_cons_succ]))); (refine' head_val ?dw29 ?de29 ?dr29 ?dh29; (case' dw29 => rfl); (case' de29 => (first | exact fun _ _ _ => trivial | (intro t ht w; cases ht; simp [upE]))); (case' dr29 => (intro w' hw' _; go_simp; with_reducible rfl)); (case' dh29 => (try simp only [Act.put, List.setIfInBounds_toArray, List.set_cons_zero, List.set_cons_succ])))
        (refine' head_skip (V := fun _ _ => True) ?sw30 ?se30 ?sh30; (case' sw30 => rfl); (case' se30 => (first | exact fun _ _ _ => trivial | (intro t ht w; cases ht; simp [upE]))); (case' sh30 => (try simp only [Act.put, List.setIfInBounds_toArray, List.set_cons_zero, List.set_cons_succ]))); (refine' head_skip (V := fun _ _ => True) ?sw31 ?se31 ?sh31; (case' sw31 => rfl); (case' se31 => (first | exact fun _ _ _ => trivial | (intro t ht w; cases ht; simp [upE]))); (case' sh31 => (try simp only [Act.put, List.setIfInBounds_toArray, List.set_cons_zero, List.set_cons_succ]))); (refine' head_skip (V := fun _ _ => True) ?sw32 ?se32 ?sh32; (case' sw32 => rfl); (case' se32 => (first | exact fun _ _ _ => trivial | (intro t ht w; cases ht; simp [upE]))); (case' sh32 => (try simp only [Act.put, List.setIfInBounds_toArray, List.set_cons_zero, List.set_cons_succ]))); (refine' head_skip (V := fun _ _ => True) ?sw33 ?se33 ?sh33; (case' sw33 => rfl); (case' se33 => (first | exact fun _ _ _ => trivial | (intro t ht w; cases ht; simp [upE]))); (case' sh33 => (try simp only [Act.put, List.setIfInBounds_toArray, List.set_cons_zero, List.set_cons_succ]))); (refine' head_skip (V := fun _ _ => True) ?sw34 ?se34 ?sh34; (case' sw34 => rfl); (case' se34 => (first | exact fun _ _ _ => trivial | (intro t ht w; cases ht; simp [upE]))); (case' sh34 => (try simp only [Act.put, List.setIfInBounds_toArray, List.set_cons_zero, List.set_cons_succ]))); (refine' head_skip (V := fun _ _ => True) ?sw35 ?se35 ?sh35; (case' sw35 => rfl); (case' se35 => (first | exact fun _ _ _ => trivial | (intro t ht w; cases ht; simp [upE]))); (case' sh35 => (try simp only [Act.put, List.setIfInBounds_toArray, List.set_cons_zero, List.set_cons_succ]))); (refine' head_skip (V := fun _ _ => True) ?sw36 ?se36 ?sh36; (case' sw36 => rfl); (case' se36 => (first | exact fun _ _ _ => trivial | (intro t ht w; cases ht; simp [upE]))); (case' sh36 => (try simp only [Act.put, List.setIfInBounds_toArray, List.set_cons_zero, List.set_cons_succ]))); (refine' head_skip (V := fun _ _ => True) ?sw37 ?se37 ?sh37; (case' sw37 => rfl); (case' se37 => (first | exact fun _ _ _ => trivial | (intro t ht w; cases ht; simp [upE]))); (case' sh37 => (try simp only [Act.put, List.setIfInBounds_toArray, List.set_cons_zero, List.set_cons_succ])))
        (refine' head_val ?dw38 ?de38 ?dr38 ?dh38; (case' dw38 => rfl); (case' de38 => (first | exact fun _ _ _ => trivial | (intro t ht w; cases ht; simp [upE]))); (case' dr38 => (intro w' hw' _; go_simp; with_reducible rfl)); (case' dh38 => (try simp only [Act.put, List.setIfInBounds_toArray, List.set_cons_zero, List.set_cons_succ]))); (refine' head_val ?dw39 ?de39 ?dr39 ?dh39; (case' dw39 => rfl); (case' de39 => (first | exact fun _ _ _ => trivial | (intro t ht w; cases ht; simp [upE]))); (case' dr39 => (intro w' hw' _; go_simp; with_reducible rfl)); (case' dh39 => (try simp only [Act.put, List.setIfInBounds_toArray, List.set_cons_zero, List.set_cons_succ]))); (refine' head_val ?dw40 ?de40 ?dr40 ?dh40; (case' dw40 => rfl); (case' de40 => (first | exact fun _ _ _ => trivial | (intro t ht w; cases ht; simp [upE]))); (case' dr40 => (intro w' hw' _; go_simp; with_reducible rfl)); (case' dh40 => (try simp only [Act.put, List.setIfInBounds_toArray, List.set_cons_zero, List.set_cons_succ])))
        refine head_nil ?_
        intro w4 hb _
        refine wpList_nil ?_
        replace HO := hid (HO.out.grow hb)
        replace HG := hid (Grow.trans HG.out hb)
        clear hb
        go_wp2_with (refine op_alloc rfl rfl ?_)
        intro g10 w5 hgl _ hb hr
        have HNE := hid (own_ne HO.out hgl)
        have HGL := hid (Nat.le_trans HG.out.size hgl)
        replace HO := hid (HO.out.grow hb)
        replace HG := hid (Grow.trans HG.out hb)
        have HR := hid hr
        clear hgl hb hr
        try simp only [Act.put, List.setIfInBounds_toArray, List.set_cons_zero, List.set_cons_succ]
        go_wp2_with fail
        refine wp_region_pick [0, 1, 3, 4] [2, 5, 6] rfl (by kernel_rfl) rfl (by kernel_rfl) ?_
        (refine' pick_val (by rfl) ?pw41 ?pr41 ?pq41 ?ph41; (case' pw41 => rfl); (case' pq41 => (exact fun _ _ _ h => h)); (case' pr41 => (intro w'; go_simp; with_reducible rfl)); (case' ph41 => (try simp only [List.getElem_toArray, List.getElem_cons_zero, List.getElem_cons_succ, Act.put, List.setIfInBounds_toArray, List.set_cons_zero, List.set_cons_succ]))); (refine' pick_val (by rfl) ?pw42 ?pr42 ?pq42 ?ph42; (case' pw42 => rfl); (case' pq42 => (exact fun _ _ _ h => h)); (case' pr42 => (intro w'; go_simp; with_reducible rfl)); (case' ph42 => (try simp only [List.getElem_toArray, List.getElem_cons_zero, List.getElem_cons_succ, Act.put, List.setIfInBounds_toArray, List.set_cons_zero, List.set_cons_succ]))); (refine' pick_val (by rfl) ?pw43 ?pr43 ?pq43 ?ph43; (case' pw43 => rfl); (case' pq43 => (exact fun _ _ _ h => h)); (case' pr43 => (intro w'; go_simp; with_reducible rfl)); (case' ph43 => (try simp only [List.getElem_toArray, List.getElem_cons_zero, List.getElem_cons_succ, Act.put, List.setIfInBounds_toArray, List.set_cons_zero, List.set_cons_succ]))); (refine' pick_val (by rfl) ?pw44 ?pr44 ?pq44 ?ph44; (case' pw44 => rfl); (case' pq44 => (exact fun _ _ _ h => h)); (case' pr44 => (intro w'; go_simp; with_reducible rfl)); (case' ph44 => (try simp only [List.getElem_toArray, List.getElem_cons_zero, List.getElem_cons_succ, Act.put, List.setIfInBounds_toArray, List.set_cons_zero, List.set_cons_succ])))
        (refine pick_nil ?_; show wpList _ _ _ (_ :: _ :: _ :: []) _ _)
        have hb := grow_drawn w5
        generalize ({ w5 with drawn := w5.drawn + 1 } : World) = w6 at *
        replace HO := hid (HO.out.grow hb)
        replace HG := hid (Grow.trans HG.out hb)
        replace HR := hid (grow_block HR.out hb)
        clear hb
        go_wp2_with (first | (refine op_loadAt (l := y) rfl rfl rfl (fun j v hv => grow_cell (HCy.out j v hv) HG.out) Hy32.out ?_) | (refine op_storeId (l := y) rfl rfl rfl rfl rfl HR.out (by rfl) Hy32.out ?_))
        intro w7 hz hgz hbz
        replace HO := hid (own_store HO.out hgz HNE.out)
        replace HG := hid (hbz _ _ HG.out HGL.out)
        clear HR
        have HR := hid hz
        clear hz hgz hbz
        go_wp2_with (refine op_callFn (f := f) (cap := #[]) (u1 := .bool false) (u2 := .bool true) (v := .bool (cnt false true)) rfl rfl rfl rfl rfl HE.out (HF.out false true _) ?_)
        intro w8 hb
        replace HO := hid (HO.out.grow hb)
        replace HG := hid (Grow.trans HG.out hb)
        replace HR := hid (grow_block HR.out hb)
        clear hb
        have HN2 := hid (show ([] : List IdL).length + b.length ≤ m by have := HN.out; simp at this ⊢; omega)
        cases hcnt : cnt false true with
        | true =>
          have HCNT := hid hcnt
          clear hcnt
          have HM2 := hid (show (o ++ [y]) ++ mergeN cnt m ([] : List IdL) b = mergeN cnt (xs.length + ys.length) xs ys by rw [← HM.out, mergeN, HCNT.out]; simp)
          have HMX2 := hid (show (o ++ [y]).length + (([] : List IdL).length + b.length) ≤ 1000000 by have := HMX.out; simp at this ⊢; omega)
          have hol : o.length ≤ 1000000 := by have := HMX.out; omega
          go_wp2_with (first | (refine op_loadId rfl rfl rfl HR.out Hy32.out ?_) | (refine op_appIds1 (w0 := w) (l1 := y) rfl rfl rfl rfl rfl rfl (fun _ => rfl) (fun _ => rfl) Hy32.out HO.out HG.out HG.out.size (by omega) ?_))
          intro u10 v10 w9 ho hb hs
          clear HO HG
          have HO := hid ho
          have HG := hid hb
          clear ho hb hs hol
          go_wp2
          go_roundg (m + 1)
          case rel => exact ⟨m, ([] : List IdL), b, A', some (tailA bd cb'), ca', cb' - 1, o ++ [y], rfl, HN2, by first | rfl | simp, by first | rfl | simp, HM2, HX, HYt, H1, H2t, HC1, HC2t, HMX2, HO, HG⟩
          case measure => omega
        | false =>
          have HCNT := hid hcnt
          clear hcnt
          have HM2 := hid (show o ++ mergeN cnt m ([] : List IdL) b = mergeN cnt (xs.length + ys.length) xs ys by rw [← HM.out, mergeN, HCNT.out]; simp)
          have HMX2 := hid (show o.length + (([] : List IdL).length + b.length) ≤ 1000000 by have := HMX.out; simp at this ⊢; omega)
          go_wp2
          go_roundg (m + 1)
          case rel => exact ⟨m, ([] : List IdL), b, A', some (tailA bd cb'), ca', cb' - 1, o, rfl, HN2, by first | rfl | simp, by first | rfl | simp, HM2, HX, HYt, H1, H2t, HC1, HC2t, HMX2, HO, HG⟩
          case measure => omega
    | cons x a =>
      cases b with
      | nil =>
        obtain ⟨m, rfl⟩ : ∃ m, n = m + 1 := ⟨n - 1, by have := HN.out; simp at this; omega⟩
        try simp only [List.length_cons]
        obtain ⟨ad, rfl, hca⟩ := HX.out.at_ 0 (by simp)
        have HCx := hid hca
        have Hx32 := hid (show x.length = 32 from H1.out _ List.mem_cons_self)
        have HXt := hid (idRow_tail HX.out (by have := HC1.out; simpa using this))
        have H1t := hid (show ∀ s ∈ a, s.length = 32 from fun s hs => H1.out s (List.mem_cons_of_mem _ hs))
        have HC1t := hid (show a.length ≤ ca' - 1 by have := HC1.out; simp at this; omega)
        have hsa := run_tail (ad := ad) (n := a.length + 1) (c := ca') (by omega)
        simp only [Nat.add_sub_cancel] at hsa
        clear hca
        have ta1 : (0 : Int) < (a.length : Int) + 1 := by omega
        have ta2 : ((a.length : Int) + 1 == 0) = false := by simp; omega
        have ta3 : decide ((0 : Int) < (a.length : Int) + 1) = true := decide_eq_true (by omega)
        go_wp2_with fail
        (refine' wp_region_head 19 0 [_, _, _, _, _, _, _, _, _, _, _, _, _, _, _, _, _, _, _] rfl (by kernel_rfl) (by kernel_rfl) ?hreg45; case' hreg45 => simp only [List.take_succ_cons, List.take_zero, List.zip_cons_cons, List.zip_nil_right, List.drop_succ_cons, List.drop_zero, List.drop_nil])
        (refine' head_val ?dw46 ?de46 ?dr46 ?dh46; (case' dw46 => rfl); (case' de46 => (first | exact fun _ _ _ => trivial | (intro t ht w; cases ht; simp [upE]))); (case' dr46 => (intro w' hw' _; go_simp; with_reducible rfl)); (case' dh46 => (try simp only [Act.put, List.setIfInBounds_toArray, List.set_cons_zero, List.set_cons_succ]))); (refine' head_val ?dw47 ?de47 ?dr47 ?dh47; (case' dw47 => rfl); (case' de47 => (first | exact fun _ _ _ => trivial | (intro t ht w; cases ht; simp [upE]))); (case' dr47 => (intro w' hw' _; go_simp; with_reducible rfl)); (case' dh47 => (try simp only [Act.put, List.setIfInBounds_toArray, List.set_cons_zero, List.set_cons_succ]))); (refine' head_val ?dw48 ?de48 ?dr48 ?dh48; (case' dw48 => rfl); (case' de48 => (first | exact fun _ _ _ => trivial | (intro t ht w; cases ht; simp [upE]))); (case' dr48 => (intro w' hw' _; go_simp; with_reducible rfl)); (case' dh48 => (try simp only [Act.put, List.setIfInBounds_toArray, List.set_cons_zero, List.set_cons_succ]))); (refine' head_val ?dw49 ?de49 ?dr49 ?dh49; (case' dw49 => rfl); (case' de49 => (first | exact fun _ _ _ => trivial | (intro t ht w; cases ht; simp [upE]))); (case' dr49 => (intro w' hw' _; go_simp; with_reducible rfl)); (case' dh49 => (try simp only [Act.put, List.setIfInBounds_toArray, List.set_cons_zero, List.set_cons_succ]))); (refine' head_val ?dw50 ?de50 ?dr50 ?dh50; (case' dw50 => rfl); (case' de50 => (first | exact fun _ _ _ => trivial | (intro t ht w; cases ht; simp [upE]))); (case' dr50 => (intro w' hw' _; go_simp; with_reducible rfl)); (case' dh50 => (try simp only [Act.put, List.setIfInBounds_toArray, List.set_cons_zero, List.set_cons_succ]))); (refine' head_val ?dw51 ?de51 ?dr51 ?dh51; (case' dw51 => rfl); (case' de51 => (first | exact fun _ _ _ => trivial | (intro t ht w; cases ht; simp [upE]))); (case' dr51 => (intro w' hw' _; go_simp; with_reducible rfl)); (case' dh51 => (try simp only [Act.put, List.setIfInBounds_toArray, List.set_cons_zero, List.set_cons_succ]))); (refine' head_val ?dw52 ?de52 ?dr52 ?dh52; (case' dw52 => rfl); (case' de52 => (first | exact fun _ _ _ => trivial | (intro t ht w; cases ht; simp [upE]))); (case' dr52 => (intro w' hw' _; go_simp; with_reducible rfl)); (case' dh52 => (try simp only [Act.put, List.setIfInBounds_toArray, List.set_cons_zero, List.set_cons_succ]))); (refine' head_val ?dw53 ?de53 ?dr53 ?dh53; (case' dw53 => rfl); (case' de53 => (first | exact fun _ _ _ => trivial | (intro t ht w; cases ht; simp [upE]))); (case' dr53 => (intro w' hw' _; go_simp; with_reducible rfl)); (case' dh53 => (try simp only [Act.put, List.setIfInBounds_toArray, List.set_cons_zero, List.set_cons_succ])))
        (refine' head_skip (V := fun _ _ => True) ?sw54 ?se54 ?sh54; (case' sw54 => rfl); (case' se54 => (first | exact fun _ _ _ => trivial | (intro t ht w; cases ht; simp [upE]))); (case' sh54 => (try simp only [Act.put, List.setIfInBounds_toArray, List.set_cons_zero, List.set_cons_succ]))); (refine' head_skip (V := fun _ _ => True) ?sw55 ?se55 ?sh55; (case' sw55 => rfl); (case' se55 => (first | exact fun _ _ _ => trivial | (intro t ht w; cases ht; simp [upE]))); (case' sh55 => (try simp only [Act.put, List.setIfInBounds_toArray, List.set_cons_zero, List.set_cons_succ]))); (refine' head_skip (V := fun _ _ => True) ?sw56 ?se56 ?sh56; (case' sw56 => rfl); (case' se56 => (first | exact fun _ _ _ => trivial | (intro t ht w; cases ht; simp [upE]))); (case' sh56 => (try simp only [Act.put, List.setIfInBounds_toArray, List.set_cons_zero, List.set_cons_succ]))); (refine' head_skip (V := fun _ _ => True) ?sw57 ?se57 ?sh57; (case' sw57 => rfl); (case' se57 => (first | exact fun _ _ _ => trivial | (intro t ht w; cases ht; simp [upE]))); (case' sh57 => (try simp only [Act.put, List.setIfInBounds_toArray, List.set_cons_zero, List.set_cons_succ]))); (refine' head_skip (V := fun _ _ => True) ?sw58 ?se58 ?sh58; (case' sw58 => rfl); (case' se58 => (first | exact fun _ _ _ => trivial | (intro t ht w; cases ht; simp [upE]))); (case' sh58 => (try simp only [Act.put, List.setIfInBounds_toArray, List.set_cons_zero, List.set_cons_succ]))); (refine' head_skip (V := fun _ _ => True) ?sw59 ?se59 ?sh59; (case' sw59 => rfl); (case' se59 => (first | exact fun _ _ _ => trivial | (intro t ht w; cases ht; simp [upE]))); (case' sh59 => (try simp only [Act.put, List.setIfInBounds_toArray, List.set_cons_zero, List.set_cons_succ]))); (refine' head_skip (V := fun _ _ => True) ?sw60 ?se60 ?sh60; (case' sw60 => rfl); (case' se60 => (first | exact fun _ _ _ => trivial | (intro t ht w; cases ht; simp [upE]))); (case' sh60 => (try simp only [Act.put, List.setIfInBounds_toArray, List.set_cons_zero, List.set_cons_succ]))); (refine' head_skip (V := fun _ _ => True) ?sw61 ?se61 ?sh61; (case' sw61 => rfl); (case' se61 => (first | exact fun _ _ _ => trivial | (intro t ht w; cases ht; simp [upE]))); (case' sh61 => (try simp only [Act.put, List.setIfInBounds_toArray, List.set_cons_zero, List.set_cons_succ])))
        (refine' head_val ?dw62 ?de62 ?dr62 ?dh62; (case' dw62 => rfl); (case' de62 => (first | exact fun _ _ _ => trivial | (intro t ht w; cases ht; simp [upE]))); (case' dr62 => (intro w' hw' _; go_simp; with_reducible rfl)); (case' dh62 => (try simp only [Act.put, List.setIfInBounds_toArray, List.set_cons_zero, List.set_cons_succ]))); (refine' head_val ?dw63 ?de63 ?dr63 ?dh63; (case' dw63 => rfl); (case' de63 => (first | exact fun _ _ _ => trivial | (intro t ht w; cases ht; simp [upE]))); (case' dr63 => (intro w' hw' _; go_simp; with_reducible rfl)); (case' dh63 => (try simp only [Act.put, List.setIfInBounds_toArray, List.set_cons_zero, List.set_cons_succ]))); (refine' head_val ?dw64 ?de64 ?dr64 ?dh64; (case' dw64 => rfl); (case' de64 => (first | exact fun _ _ _ => trivial | (intro t ht w; cases ht; simp [upE]))); (case' dr64 => (intro w' hw' _; go_simp; with_reducible rfl)); (case' dh64 => (try simp only [Act.put, List.setIfInBounds_toArray, List.set_cons_zero, List.set_cons_succ])))
        refine head_nil ?_
        intro w3 hb _
        refine wpList_nil ?_
        replace HO := hid (HO.out.grow hb)
        replace HG := hid (Grow.trans HG.out hb)
        clear hb
        go_wp2_with fail
        (refine' wp_region_head 19 0 [_, _, _, _, _, _, _, _, _, _, _, _, _, _, _, _, _, _, _] rfl (by kernel_rfl) (by kernel_rfl) ?hreg65; case' hreg65 => simp only [List.take_succ_cons, List.take_zero, List.zip_cons_cons, List.zip_nil_right, List.drop_succ_cons, List.drop_zero, List.drop_nil])
        (refine' head_val ?dw66 ?de66 ?dr66 ?dh66; (case' dw66 => rfl); (case' de66 => (first | exact fun _ _ _ => trivial | (intro t ht w; cases ht; simp [upE]))); (case' dr66 => (intro w' hw' _; go_simp; with_reducible rfl)); (case' dh66 => (try simp only [Act.put, List.setIfInBounds_toArray, List.set_cons_zero, List.set_cons_succ]))); (refine' head_val ?dw67 ?de67 ?dr67 ?dh67; (case' dw67 => rfl); (case' de67 => (first | exact fun _ _ _ => trivial | (intro t ht w; cases ht; simp [upE]))); (case' dr67 => (intro w' hw' _; go_simp; with_reducible rfl)); (case' dh67 => (try simp only [Act.put, List.setIfInBounds_toArray, List.set_cons_zero, List.set_cons_succ]))); (refine' head_val ?dw68 ?de68 ?dr68 ?dh68; (case' dw68 => rfl); (case' de68 => (first | exact fun _ _ _ => trivial | (intro t ht w; cases ht; simp [upE]))); (case' dr68 => (intro w' hw' _; go_simp; with_reducible rfl)); (case' dh68 => (try simp only [Act.put, List.setIfInBounds_toArray, List.set_cons_zero, List.set_cons_succ]))); (refine' head_val ?dw69 ?de69 ?dr69 ?dh69; (case' dw69 => rfl); (case' de69 => (first | exact fun _ _ _ => trivial | (intro t ht w; cases ht; simp [upE]))); (case' dr69 => (intro w' hw' _; go_simp; with_reducible rfl)); (case' dh69 => (try simp only [Act.put, List.setIfInBounds_toArray, List.set_cons_zero, List.set_cons_succ])))
        (refine' head_skip (V := fun _ _ => True) ?sw70 ?se70 ?sh70; (case' sw70 => rfl); (case' se70 => (first | exact fun _ _ _ => trivial | (intro t ht w; cases ht; simp [upE]))); (case' sh70 => (try simp only [Act.put, List.setIfInBounds_toArray, List.set_cons_zero, List.set_cons_succ]))); (refine' head_skip (V := fun _ _ => True) ?sw71 ?se71 ?sh71; (case' sw71 => rfl); (case' se71 => (first | exact fun _ _ _ => trivial | (intro t ht w; cases ht; simp [upE]))); (case' sh71 => (try simp only [Act.put, List.setIfInBounds_toArray, List.set_cons_zero, List.set_cons_succ]))); (refine' head_skip (V := fun _ _ => True) ?sw72 ?se72 ?sh72; (case' sw72 => rfl); (case' se72 => (first | exact fun _ _ _ => trivial | (intro t ht w; cases ht; simp [upE]))); (case' sh72 => (try simp only [Act.put, List.setIfInBounds_toArray, List.set_cons_zero, List.set_cons_succ]))); (refine' head_skip (V := fun _ _ => True) ?sw73 ?se73 ?sh73; (case' sw73 => rfl); (case' se73 => (first | exact fun _ _ _ => trivial | (intro t ht w; cases ht; simp [upE]))); (case' sh73 => (try simp only [Act.put, List.setIfInBounds_toArray, List.set_cons_zero, List.set_cons_succ]))); (refine' head_skip (V := fun _ _ => True) ?sw74 ?se74 ?sh74; (case' sw74 => rfl); (case' se74 => (first | exact fun _ _ _ => trivial | (intro t ht w; cases ht; simp [upE]))); (case' sh74 => (try simp only [Act.put, List.setIfInBounds_toArray, List.set_cons_zero, List.set_cons_succ]))); (refine' head_skip (V := fun _ _ => True) ?sw75 ?se75 ?sh75; (case' sw75 => rfl); (case' se75 => (first | exact fun _ _ _ => trivial | (intro t ht w; cases ht; simp [upE]))); (case' sh75 => (try simp only [Act.put, List.setIfInBounds_toArray, List.set_cons_zero, List.set_cons_succ]))); (refine' head_skip (V := fun _ _ => True) ?sw76 ?se76 ?sh76; (case' sw76 => rfl); (case' se76 => (first | exact fun _ _ _ => trivial | (intro t ht w; cases ht; simp [upE]))); (case' sh76 => (try simp only [Act.put, List.setIfInBounds_toArray, List.set_cons_zero, List.set_cons_succ]))); (refine' head_skip (V := fun _ _ => True) ?sw77 ?se77 ?sh77; (case' sw77 => rfl); (case' se77 => (first | exact fun _ _ _ => trivial | (intro t ht w; cases ht; simp [upE]))); (case' sh77 => (try simp only [Act.put, List.setIfInBounds_toArray, List.set_cons_zero, List.set_cons_succ]))); (refine' head_skip (V := fun _ _ => True) ?sw78 ?se78 ?sh78; (case' sw78 => rfl); (case' se78 => (first | exact fun _ _ _ => trivial | (intro t ht w; cases ht; simp [upE]))); (case' sh78 => (try simp only [Act.put, List.setIfInBounds_toArray, List.set_cons_zero, List.set_cons_succ]))); (refine' head_skip (V := fun _ _ => True) ?sw79 ?se79 ?sh79; (case' sw79 => rfl); (case' se79 => (first | exact fun _ _ _ => trivial | (intro t ht w; cases ht; simp [upE]))); (case' sh79 => (try simp only [Act.put, List.setIfInBounds_toArray, List.set_cons_zero, List.set_cons_succ]))); (refine' head_skip (V := fun _ _ => True) ?sw80 ?se80 ?sh80; (case' sw80 => rfl); (case' se80 => (first | exact fun _ _ _ => trivial | (intro t ht w; cases ht; simp [upE]))); (case' sh80 => (try simp only [Act.put, List.setIfInBounds_toArray, List.set_cons_zero, List.set_cons_succ]))); (refine' head_skip (V := fun _ _ => True) ?sw81 ?se81 ?sh81; (case' sw81 => rfl); (case' se81 => (first | exact fun _ _ _ => trivial | (intro t ht w; cases ht; simp [upE]))); (case' sh81 => (try simp only [Act.put, List.setIfInBounds_toArray, List.set_cons_zero, List.set_cons_succ]))); (refine' head_skip (V := fun _ _ => True) ?sw82 ?se82 ?sh82; (case' sw82 => rfl); (case' se82 => (first | exact fun _ _ _ => trivial | (intro t ht w; cases ht; simp [upE]))); (case' sh82 => (try simp only [Act.put, List.setIfInBounds_toArray, List.set_cons_zero, List.set_cons_succ])))
        (refine' head_val ?dw83 ?de83 ?dr83 ?dh83; (case' dw83 => rfl); (case' de83 => (first | exact fun _ _ _ => trivial | (intro t ht w; cases ht; simp [upE]))); (case' dr83 => (intro w' hw' _; go_simp; with_reducible rfl)); (case' dh83 => (try simp only [Act.put, List.setIfInBounds_toArray, List.set_cons_zero, List.set_cons_succ]))); (refine' head_val ?dw84 ?de84 ?dr84 ?dh84; (case' dw84 => rfl); (case' de84 => (first | exact fun _ _ _ => trivial | (intro t ht w; cases ht; simp [upE]))); (case' dr84 => (intro w' hw' _; go_simp; with_reducible rfl)); (case' dh84 => (try simp only [Act.put, List.setIfInBounds_toArray, List.set_cons_zero, List.set_cons_succ])))
        refine head_nil ?_
        intro w4 hb _
        refine wpList_nil ?_
        replace HO := hid (HO.out.grow hb)
        replace HG := hid (Grow.trans HG.out hb)
        clear hb
        go_wp2_with (refine op_alloc rfl rfl ?_)
        intro g10 w5 hgl _ hb hr
        have HNE := hid (own_ne HO.out hgl)
        have HGL := hid (Nat.le_trans HG.out.size hgl)
        replace HO := hid (HO.out.grow hb)
        replace HG := hid (Grow.trans HG.out hb)
        have HR := hid hr
        clear hgl hb hr
        try simp only [Act.put, List.setIfInBounds_toArray, List.set_cons_zero, List.set_cons_succ]
        go_wp2_with fail
        refine wp_region_pick [0, 1, 3, 4] [2, 5, 6] rfl (by kernel_rfl) rfl (by kernel_rfl) ?_
        (refine' pick_val (by rfl) ?pw85 ?pr85 ?pq85 ?ph85; (case' pw85 => rfl); (case' pq85 => (exact fun _ _ _ h => h)); (case' pr85 => (intro w'; go_simp; with_reducible rfl)); (case' ph85 => (try simp only [List.getElem_toArray, List.getElem_cons_zero, List.getElem_cons_succ, Act.put, List.setIfInBounds_toArray, List.set_cons_zero, List.set_cons_succ]))); (refine' pick_val (by rfl) ?pw86 ?pr86 ?pq86 ?ph86; (case' pw86 => rfl); (case' pq86 => (exact fun _ _ _ h => h)); (case' pr86 => (intro w'; go_simp; with_reducible rfl)); (case' ph86 => (try simp only [List.getElem_toArray, List.getElem_cons_zero, List.getElem_cons_succ, Act.put, List.setIfInBounds_toArray, List.set_cons_zero, List.set_cons_succ]))); (refine' pick_val (by rfl) ?pw87 ?pr87 ?pq87 ?ph87; (case' pw87 => rfl); (case' pq87 => (exact fun _ _ _ h => h)); (case' pr87 => (intro w'; go_simp; with_reducible rfl)); (case' ph87 => (try simp only [List.getElem_toArray, List.getElem_cons_zero, List.getElem_cons_succ, Act.put, List.setIfInBounds_toArray, List.set_cons_zero, List.set_cons_succ]))); (refine' pick_val (by rfl) ?pw88 ?pr88 ?pq88 ?ph88; (case' pw88 => rfl); (case' pq88 => (exact fun _ _ _ h => h)); (case' pr88 => (intro w'; go_simp; with_reducible rfl)); (case' ph88 => (try simp only [List.getElem_toArray, List.getElem_cons_zero, List.getElem_cons_succ, Act.put, List.setIfInBounds_toArray, List.set_cons_zero, List.set_cons_succ])))
        (refine pick_nil ?_; show wpList _ _ _ (_ :: _ :: _ :: []) _ _)
        have hb := grow_drawn w5
        generalize ({ w5 with drawn := w5.drawn + 1 } : World) = w6 at *
        replace HO := hid (HO.out.grow hb)
        replace HG := hid (Grow.trans HG.out hb)
        replace HR := hid (grow_block HR.out hb)
        clear hb
        go_wp2_with (first | (refine op_loadAt (l := x) rfl rfl rfl (fun j v hv => grow_cell (HCx.out j v hv) HG.out) Hx32.out ?_) | (refine op_storeId (l := x) rfl rfl rfl rfl rfl HR.out (by rfl) Hx32.out ?_))
        intro w7 hz hgz hbz
        replace HO := hid (own_store HO.out hgz HNE.out)
        replace HG := hid (hbz _ _ HG.out HGL.out)
        clear HR
        have HR := hid hz
        clear hz hgz hbz
        go_wp2_with (refine op_callFn (f := f) (cap := #[]) (u1 := .bool true) (u2 := .bool false) (v := .bool (cnt true false)) rfl rfl rfl rfl rfl HE.out (HF.out true false _) ?_)
        intro w8 hb
        replace HO := hid (HO.out.grow hb)
        replace HG := hid (Grow.trans HG.out hb)
        replace HR := hid (grow_block HR.out hb)
        clear hb
        have HN2 := hid (show a.length + ([] : List IdL).length ≤ m by have := HN.out; simp at this ⊢; omega)
        cases hcnt : cnt true false with
        | true =>
          have HCNT := hid hcnt
          clear hcnt
          have HM2 := hid (show (o ++ [x]) ++ mergeN cnt m a ([] : List IdL) = mergeN cnt (xs.length + ys.length) xs ys by rw [← HM.out, mergeN, HCNT.out]; simp)
          have HMX2 := hid (show (o ++ [x]).length + (a.length + ([] : List IdL).length) ≤ 1000000 by have := HMX.out; simp at this ⊢; omega)
          have hol : o.length ≤ 1000000 := by have := HMX.out; omega
          go_wp2_with (first | (refine op_loadId rfl rfl rfl HR.out Hx32.out ?_) | (refine op_appIds1 (w0 := w) (l1 := x) rfl rfl rfl rfl rfl rfl (fun _ => rfl) (fun _ => rfl) Hx32.out HO.out HG.out HG.out.size (by omega) ?_))
          intro u10 v10 w9 ho hb hs
          clear HO HG
          have HO := hid ho
          have HG := hid hb
          clear ho hb hs hol
          go_wp2
          go_roundg (m + 1)
          case rel => exact ⟨m, a, ([] : List IdL), some (tailA ad ca'), B', ca' - 1, cb', o ++ [x], rfl, HN2, by first | rfl | simp, by first | rfl | simp, HM2, HXt, HY, H1t, H2, HC1t, HC2, HMX2, HO, HG⟩
          case measure => omega
        | false =>
          have HCNT := hid hcnt
          clear hcnt
          have HM2 := hid (show o ++ mergeN cnt m a ([] : List IdL) = mergeN cnt (xs.length + ys.length) xs ys by rw [← HM.out, mergeN, HCNT.out]; simp)
          have HMX2 := hid (show o.length + (a.length + ([] : List IdL).length) ≤ 1000000 by have := HMX.out; simp at this ⊢; omega)
          go_wp2
          go_roundg (m + 1)
          case rel => exact ⟨m, a, ([] : List IdL), some (tailA ad ca'), B', ca' - 1, cb', o, rfl, HN2, by first | rfl | simp, by first | rfl | simp, HM2, HXt, HY, H1t, H2, HC1t, HC2, HMX2, HO, HG⟩
          case measure => omega
      | cons y b =>
        obtain ⟨m, rfl⟩ : ∃ m, n = m + 1 := ⟨n - 1, by have := HN.out; simp at this; omega⟩
        try simp only [List.length_cons]
        obtain ⟨ad, rfl, hca⟩ := HX.out.at_ 0 (by simp)
        have HCx := hid hca
        have Hx32 := hid (show x.length = 32 from H1.out _ List.mem_cons_self)
        have HXt := hid (idRow_tail HX.out (by have := HC1.out; simpa using this))
        have H1t := hid (show ∀ s ∈ a, s.length = 32 from fun s hs => H1.out s (List.mem_cons_of_mem _ hs))
        have HC1t := hid (show a.length ≤ ca' - 1 by have := HC1.out; simp at this; omega)
        have hsa := run_tail (ad := ad) (n := a.length + 1) (c := ca') (by omega)
        simp only [Nat.add_sub_cancel] at hsa
        clear hca
        have ta1 : (0 : Int) < (a.length : Int) + 1 := by omega
        have ta2 : ((a.length : Int) + 1 == 0) = false := by simp; omega
        have ta3 : decide ((0 : Int) < (a.length : Int) + 1) = true := decide_eq_true (by omega)
        obtain ⟨bd, rfl, hcb⟩ := HY.out.at_ 0 (by simp)
        have HCy := hid hcb
        have Hy32 := hid (show y.length = 32 from H2.out _ List.mem_cons_self)
        have HYt := hid (idRow_tail HY.out (by have := HC2.out; simpa using this))
        have H2t := hid (show ∀ s ∈ b, s.length = 32 from fun s hs => H2.out s (List.mem_cons_of_mem _ hs))
        have HC2t := hid (show b.length ≤ cb' - 1 by have := HC2.out; simp at this; omega)
        have hsb := run_tail (ad := bd) (n := b.length + 1) (c := cb') (by omega)
        simp only [Nat.add_sub_cancel] at hsb
        clear hcb
        have tb1 : (0 : Int) < (b.length : Int) + 1 := by omega
        have tb2 : ((b.length : Int) + 1 == 0) = false := by simp; omega
        have tb3 : decide ((0 : Int) < (b.length : Int) + 1) = true := decide_eq_true (by omega)
        cases hyx : lexLess y x with
        | true =>
          have hxy := lexLess_asymm _ _ hyx
          have HYX := hid hyx
          go_wp2_with fail
          (refine' wp_region_head 19 0 [_, _, _, _, _, _, _, _, _, _, _, _, _, _, _, _, _, _, _] rfl (by kernel_rfl) (by kernel_rfl) ?hreg89; case' hreg89 => simp only [List.take_succ_cons, List.take_zero, List.zip_cons_cons, List.zip_nil_right, List.drop_succ_cons, List.drop_zero, List.drop_nil])
          (refine' head_val ?dw90 ?de90 ?dr90 ?dh90; (case' dw90 => rfl); (case' de90 => (first | exact fun _ _ _ => trivial | (intro t ht w; cases ht; simp [upE]))); (case' dr90 => (intro w' hw' _; go_simp; with_reducible rfl)); (case' dh90 => (try simp only [Act.put, List.setIfInBounds_toArray, List.set_cons_zero, List.set_cons_succ]))); (refine' head_val ?dw91 ?de91 ?dr91 ?dh91; (case' dw91 => rfl); (case' de91 => (first | exact fun _ _ _ => trivial | (intro t ht w; cases ht; simp [upE]))); (case' dr91 => (intro w' hw' _; go_simp; with_reducible rfl)); (case' dh91 => (try simp only [Act.put, List.setIfInBounds_toArray, List.set_cons_zero, List.set_cons_succ]))); (refine' head_val ?dw92 ?de92 ?dr92 ?dh92; (case' dw92 => rfl); (case' de92 => (first | exact fun _ _ _ => trivial | (intro t ht w; cases ht; simp [upE]))); (case' dr92 => (intro w' hw' _; go_simp; with_reducible rfl)); (case' dh92 => (try simp only [Act.put, List.setIfInBounds_toArray, List.set_cons_zero, List.set_cons_succ]))); (refine' head_val ?dw93 ?de93 ?dr93 ?dh93; (case' dw93 => rfl); (case' de93 => (first | exact fun _ _ _ => trivial | (intro t ht w; cases ht; simp [upE]))); (case' dr93 => (intro w' hw' _; go_simp; with_reducible rfl)); (case' dh93 => (try simp only [Act.put, List.setIfInBounds_toArray, List.set_cons_zero, List.set_cons_succ]))); (refine' head_val ?dw94 ?de94 ?dr94 ?dh94; (case' dw94 => rfl); (case' de94 => (first | exact fun _ _ _ => trivial | (intro t ht w; cases ht; simp [upE]))); (case' dr94 => (intro w' hw' _; go_simp; with_reducible rfl)); (case' dh94 => (try simp only [Act.put, List.setIfInBounds_toArray, List.set_cons_zero, List.set_cons_succ]))); (refine' head_val ?dw95 ?de95 ?dr95 ?dh95; (case' dw95 => rfl); (case' de95 => (first | exact fun _ _ _ => trivial | (intro t ht w; cases ht; simp [upE]))); (case' dr95 => (intro w' hw' _; go_simp; with_reducible rfl)); (case' dh95 => (try simp only [Act.put, List.setIfInBounds_toArray, List.set_cons_zero, List.set_cons_succ]))); (refine' head_val ?dw96 ?de96 ?dr96 ?dh96; (case' dw96 => rfl); (case' de96 => (first | exact fun _ _ _ => trivial | (intro t ht w; cases ht; simp [upE]))); (case' dr96 => (intro w' hw' _; go_simp; with_reducible rfl)); (case' dh96 => (try simp only [Act.put, List.setIfInBounds_toArray, List.set_cons_zero, List.set_cons_succ]))); (refine' head_val ?dw97 ?de97 ?dr97 ?dh97; (case' dw97 => rfl); (case' de97 => (first | exact fun _ _ _ => trivial | (intro t ht w; cases ht; simp [upE]))); (case' dr97 => (intro w' hw' _; go_simp; with_reducible rfl)); (case' dh97 => (try simp only [Act.put, List.setIfInBounds_toArray, List.set_cons_zero, List.set_cons_succ]))); (refine' head_val ?dw98 ?de98 ?dr98 ?dh98; (case' dw98 => rfl); (case' de98 => (first | exact fun _ _ _ => trivial | (intro t ht w; cases ht; simp [upE]))); (case' dr98 => (intro w' hw' _; go_simp; with_reducible rfl)); (case' dh98 => (try simp only [Act.put, List.setIfInBounds_toArray, List.set_cons_zero, List.set_cons_succ]))); (refine' head_val ?dw99 ?de99 ?dr99 ?dh99; (case' dw99 => rfl); (case' de99 => (first | exact fun _ _ _ => trivial | (intro t ht w; cases ht; simp [upE]))); (case' dr99 => (intro w' hw' _; go_simp; with_reducible rfl)); (case' dh99 => (try simp only [Act.put, List.setIfInBounds_toArray, List.set_cons_zero, List.set_cons_succ])))
          (refine' head_loadAt (x := _) rfl ?_ rfl rfl (fun j v hv => grow_cell (HCy.out j v hv) HG.out) (Hy32.out) ?_; (first | exact fun _ _ _ => trivial | (intro t ht w; cases ht; simp [upE])); try simp only [Act.put, List.setIfInBounds_toArray, List.set_cons_zero, List.set_cons_succ])
          (refine' head_val ?dw100 ?de100 ?dr100 ?dh100; (case' dw100 => rfl); (case' de100 => (first | exact fun _ _ _ => trivial | (intro t ht w; cases ht; simp [upE]))); (case' dr100 => (intro w' hw' _; go_simp; with_reducible rfl)); (case' dh100 => (try simp only [Act.put, List.setIfInBounds_toArray, List.set_cons_zero, List.set_cons_succ]))); (refine' head_val ?dw101 ?de101 ?dr101 ?dh101; (case' dw101 => rfl); (case' de101 => (first | exact fun _ _ _ => trivial | (intro t ht w; cases ht; simp [upE]))); (case' dr101 => (intro w' hw' _; go_simp; with_reducible rfl)); (case' dh101 => (try simp only [Act.put, List.setIfInBounds_toArray, List.set_cons_zero, List.set_cons_succ])))
          (refine' head_loadAt (x := _) rfl ?_ rfl rfl (fun j v hv => grow_cell (HCx.out j v hv) HG.out) (Hx32.out) ?_; (first | exact fun _ _ _ => trivial | (intro t ht w; cases ht; simp [upE])); try simp only [Act.put, List.setIfInBounds_toArray, List.set_cons_zero, List.set_cons_succ])
          (refine' head_call ?cw102 ?ce102 ?cr102 ?cc102 ?ch102; (case' cw102 => rfl); (case' ce102 => (first | exact fun _ _ _ => trivial | (intro t ht w; cases ht; simp [upE]))); (case' cr102 => (intro w'; go_simp; first | exact ⟨rfl, rfl⟩ | with_reducible rfl)); (case' cc102 => (intro w' hw' _; exact idLess y x Hy32.out Hx32.out w')); (case' ch102 => (try simp only [Act.put, List.setIfInBounds_toArray, List.set_cons_zero, List.set_cons_succ])))
          (refine' head_val ?dw103 ?de103 ?dr103 ?dh103; (case' dw103 => rfl); (case' de103 => (first | exact fun _ _ _ => trivial | (intro t ht w; cases ht; simp [upE]))); (case' dr103 => (intro w' hw' _; go_simp; with_reducible rfl)); (case' dh103 => (try simp only [Act.put, List.setIfInBounds_toArray, List.set_cons_zero, List.set_cons_succ]))); (refine' head_val ?dw104 ?de104 ?dr104 ?dh104; (case' dw104 => rfl); (case' de104 => (first | exact fun _ _ _ => trivial | (intro t ht w; cases ht; simp [upE]))); (case' dr104 => (intro w' hw' _; go_simp; with_reducible rfl)); (case' dh104 => (try simp only [Act.put, List.setIfInBounds_toArray, List.set_cons_zero, List.set_cons_succ]))); (refine' head_val ?dw105 ?de105 ?dr105 ?dh105; (case' dw105 => rfl); (case' de105 => (first | exact fun _ _ _ => trivial | (intro t ht w; cases ht; simp [upE]))); (case' dr105 => (intro w' hw' _; go_simp; with_reducible rfl)); (case' dh105 => (try simp only [Act.put, List.setIfInBounds_toArray, List.set_cons_zero, List.set_cons_succ]))); (refine' head_val ?dw106 ?de106 ?dr106 ?dh106; (case' dw106 => rfl); (case' de106 => (first | exact fun _ _ _ => trivial | (intro t ht w; cases ht; simp [upE]))); (case' dr106 => (intro w' hw' _; go_simp; with_reducible rfl)); (case' dh106 => (try simp only [Act.put, List.setIfInBounds_toArray, List.set_cons_zero, List.set_cons_succ])))
          refine head_nil ?_
          intro w3 hb _
          refine wpList_nil ?_
          replace HO := hid (HO.out.grow hb)
          replace HG := hid (Grow.trans HG.out hb)
          clear hb
          go_wp2_with fail
          (refine' wp_region_head 19 0 [_, _, _, _, _, _, _, _, _, _, _, _, _, _, _, _, _, _, _] rfl (by kernel_rfl) (by kernel_rfl) ?hreg107; case' hreg107 => simp only [List.take_succ_cons, List.take_zero, List.zip_cons_cons, List.zip_nil_right, List.drop_succ_cons, List.drop_zero, List.drop_nil])
          (refine' head_val ?dw108 ?de108 ?dr108 ?dh108; (case' dw108 => rfl); (case' de108 => (first | exact fun _ _ _ => trivial | (intro t ht w; cases ht; simp [upE]))); (case' dr108 => (intro w' hw' _; go_simp; with_reducible rfl)); (case' dh108 => (try simp only [Act.put, List.setIfInBounds_toArray, List.set_cons_zero, List.set_cons_succ]))); (refine' head_val ?dw109 ?de109 ?dr109 ?dh109; (case' dw109 => rfl); (case' de109 => (first | exact fun _ _ _ => trivial | (intro t ht w; cases ht; simp [upE]))); (case' dr109 => (intro w' hw' _; go_simp; with_reducible rfl)); (case' dh109 => (try simp only [Act.put, List.setIfInBounds_toArray, List.set_cons_zero, List.set_cons_succ]))); (refine' head_val ?dw110 ?de110 ?dr110 ?dh110; (case' dw110 => rfl); (case' de110 => (first | exact fun _ _ _ => trivial | (intro t ht w; cases ht; simp [upE]))); (case' dr110 => (intro w' hw' _; go_simp; with_reducible rfl)); (case' dh110 => (try simp only [Act.put, List.setIfInBounds_toArray, List.set_cons_zero, List.set_cons_succ]))); (refine' head_val ?dw111 ?de111 ?dr111 ?dh111; (case' dw111 => rfl); (case' de111 => (first | exact fun _ _ _ => trivial | (intro t ht w; cases ht; simp [upE]))); (case' dr111 => (intro w' hw' _; go_simp; with_reducible rfl)); (case' dh111 => (try simp only [Act.put, List.setIfInBounds_toArray, List.set_cons_zero, List.set_cons_succ]))); (refine' head_val ?dw112 ?de112 ?dr112 ?dh112; (case' dw112 => rfl); (case' de112 => (first | exact fun _ _ _ => trivial | (intro t ht w; cases ht; simp [upE]))); (case' dr112 => (intro w' hw' _; go_simp; with_reducible rfl)); (case' dh112 => (try simp only [Act.put, List.setIfInBounds_toArray, List.set_cons_zero, List.set_cons_succ]))); (refine' head_val ?dw113 ?de113 ?dr113 ?dh113; (case' dw113 => rfl); (case' de113 => (first | exact fun _ _ _ => trivial | (intro t ht w; cases ht; simp [upE]))); (case' dr113 => (intro w' hw' _; go_simp; with_reducible rfl)); (case' dh113 => (try simp only [Act.put, List.setIfInBounds_toArray, List.set_cons_zero, List.set_cons_succ]))); (refine' head_val ?dw114 ?de114 ?dr114 ?dh114; (case' dw114 => rfl); (case' de114 => (first | exact fun _ _ _ => trivial | (intro t ht w; cases ht; simp [upE]))); (case' dr114 => (intro w' hw' _; go_simp; with_reducible rfl)); (case' dh114 => (try simp only [Act.put, List.setIfInBounds_toArray, List.set_cons_zero, List.set_cons_succ]))); (refine' head_val ?dw115 ?de115 ?dr115 ?dh115; (case' dw115 => rfl); (case' de115 => (first | exact fun _ _ _ => trivial | (intro t ht w; cases ht; simp [upE]))); (case' dr115 => (intro w' hw' _; go_simp; with_reducible rfl)); (case' dh115 => (try simp only [Act.put, List.setIfInBounds_toArray, List.set_cons_zero, List.set_cons_succ]))); (refine' head_val ?dw116 ?de116 ?dr116 ?dh116; (case' dw116 => rfl); (case' de116 => (first | exact fun _ _ _ => trivial | (intro t ht w; cases ht; simp [upE]))); (case' dr116 => (intro w' hw' _; go_simp; with_reducible rfl)); (case' dh116 => (try simp only [Act.put, List.setIfInBounds_toArray, List.set_cons_zero, List.set_cons_succ]))); (refine' head_val ?dw117 ?de117 ?dr117 ?dh117; (case' dw117 => rfl); (case' de117 => (first | exact fun _ _ _ => trivial | (intro t ht w; cases ht; simp [upE]))); (case' dr117 => (intro w' hw' _; go_simp; with_reducible rfl)); (case' dh117 => (try simp only [Act.put, List.setIfInBounds_toArray, List.set_cons_zero, List.set_cons_succ])))
          (refine' head_loadAt (x := _) rfl ?_ rfl rfl (fun j v hv => grow_cell (HCx.out j v hv) HG.out) (Hx32.out) ?_; (first | exact fun _ _ _ => trivial | (intro t ht w; cases ht; simp [upE])); try simp only [Act.put, List.setIfInBounds_toArray, List.set_cons_zero, List.set_cons_succ])
          (refine' head_val ?dw118 ?de118 ?dr118 ?dh118; (case' dw118 => rfl); (case' de118 => (first | exact fun _ _ _ => trivial | (intro t ht w; cases ht; simp [upE]))); (case' dr118 => (intro w' hw' _; go_simp; with_reducible rfl)); (case' dh118 => (try simp only [Act.put, List.setIfInBounds_toArray, List.set_cons_zero, List.set_cons_succ]))); (refine' head_val ?dw119 ?de119 ?dr119 ?dh119; (case' dw119 => rfl); (case' de119 => (first | exact fun _ _ _ => trivial | (intro t ht w; cases ht; simp [upE]))); (case' dr119 => (intro w' hw' _; go_simp; with_reducible rfl)); (case' dh119 => (try simp only [Act.put, List.setIfInBounds_toArray, List.set_cons_zero, List.set_cons_succ])))
          (refine' head_loadAt (x := _) rfl ?_ rfl rfl (fun j v hv => grow_cell (HCy.out j v hv) HG.out) (Hy32.out) ?_; (first | exact fun _ _ _ => trivial | (intro t ht w; cases ht; simp [upE])); try simp only [Act.put, List.setIfInBounds_toArray, List.set_cons_zero, List.set_cons_succ])
          (refine' head_call ?cw120 ?ce120 ?cr120 ?cc120 ?ch120; (case' cw120 => rfl); (case' ce120 => (first | exact fun _ _ _ => trivial | (intro t ht w; cases ht; simp [upE]))); (case' cr120 => (intro w'; go_simp; first | exact ⟨rfl, rfl⟩ | with_reducible rfl)); (case' cc120 => (intro w' hw' _; exact idLess x y Hx32.out Hy32.out w')); (case' ch120 => (try simp only [Act.put, List.setIfInBounds_toArray, List.set_cons_zero, List.set_cons_succ])))
          (refine' head_val ?dw121 ?de121 ?dr121 ?dh121; (case' dw121 => rfl); (case' de121 => (first | exact fun _ _ _ => trivial | (intro t ht w; cases ht; simp [upE]))); (case' dr121 => (intro w' hw' _; go_simp; with_reducible rfl)); (case' dh121 => (try simp only [Act.put, List.setIfInBounds_toArray, List.set_cons_zero, List.set_cons_succ]))); (refine' head_val ?dw122 ?de122 ?dr122 ?dh122; (case' dw122 => rfl); (case' de122 => (first | exact fun _ _ _ => trivial | (intro t ht w; cases ht; simp [upE]))); (case' dr122 => (intro w' hw' _; go_simp; with_reducible rfl)); (case' dh122 => (try simp only [Act.put, List.setIfInBounds_toArray, List.set_cons_zero, List.set_cons_succ]))); (refine' head_val ?dw123 ?de123 ?dr123 ?dh123; (case' dw123 => rfl); (case' de123 => (first | exact fun _ _ _ => trivial | (intro t ht w; cases ht; simp [upE]))); (case' dr123 => (intro w' hw' _; go_simp; with_reducible rfl)); (case' dh123 => (try simp only [Act.put, List.setIfInBounds_toArray, List.set_cons_zero, List.set_cons_succ]))); (refine' head_val ?dw124 ?de124 ?dr124 ?dh124; (case' dw124 => rfl); (case' de124 => (first | exact fun _ _ _ => trivial | (intro t ht w; cases ht; simp [upE]))); (case' dr124 => (intro w' hw' _; go_simp; with_reducible rfl)); (case' dh124 => (try simp only [Act.put, List.setIfInBounds_toArray, List.set_cons_zero, List.set_cons_succ])))
          clear hyx hxy
          refine head_nil ?_
          intro w4 hb _
          refine wpList_nil ?_
          replace HO := hid (HO.out.grow hb)
          replace HG := hid (Grow.trans HG.out hb)
          clear hb
          go_wp2_with (refine op_alloc rfl rfl ?_)
          intro g10 w5 hgl _ hb hr
          have HNE := hid (own_ne HO.out hgl)
          have HGL := hid (Nat.le_trans HG.out.size hgl)
          replace HO := hid (HO.out.grow hb)
          replace HG := hid (Grow.trans HG.out hb)
          have HR := hid hr
          clear hgl hb hr
          try simp only [Act.put, List.setIfInBounds_toArray, List.set_cons_zero, List.set_cons_succ]
          go_wp2_with fail
          refine wp_region_pick [0, 1, 3, 4] [2, 5, 6] rfl (by kernel_rfl) rfl (by kernel_rfl) ?_
          (refine' pick_val (by rfl) ?pw125 ?pr125 ?pq125 ?ph125; (case' pw125 => rfl); (case' pq125 => (exact fun _ _ _ h => h)); (case' pr125 => (intro w'; go_simp; with_reducible rfl)); (case' ph125 => (try simp only [List.getElem_toArray, List.getElem_cons_zero, List.getElem_cons_succ, Act.put, List.setIfInBounds_toArray, List.set_cons_zero, List.set_cons_succ]))); (refine' pick_val (by rfl) ?pw126 ?pr126 ?pq126 ?ph126; (case' pw126 => rfl); (case' pq126 => (exact fun _ _ _ h => h)); (case' pr126 => (intro w'; go_simp; with_reducible rfl)); (case' ph126 => (try simp only [List.getElem_toArray, List.getElem_cons_zero, List.getElem_cons_succ, Act.put, List.setIfInBounds_toArray, List.set_cons_zero, List.set_cons_succ]))); (refine' pick_val (by rfl) ?pw127 ?pr127 ?pq127 ?ph127; (case' pw127 => rfl); (case' pq127 => (exact fun _ _ _ h => h)); (case' pr127 => (intro w'; go_simp; with_reducible rfl)); (case' ph127 => (try simp only [List.getElem_toArray, List.getElem_cons_zero, List.getElem_cons_succ, Act.put, List.setIfInBounds_toArray, List.set_cons_zero, List.set_cons_succ]))); (refine' pick_val (by rfl) ?pw128 ?pr128 ?pq128 ?ph128; (case' pw128 => rfl); (case' pq128 => (exact fun _ _ _ h => h)); (case' pr128 => (intro w'; go_simp; with_reducible rfl)); (case' ph128 => (try simp only [List.getElem_toArray, List.getElem_cons_zero, List.getElem_cons_succ, Act.put, List.setIfInBounds_toArray, List.set_cons_zero, List.set_cons_succ])))
          (refine pick_nil ?_; show wpList _ _ _ (_ :: _ :: _ :: []) _ _)
          have hb := grow_drawn w5
          generalize ({ w5 with drawn := w5.drawn + 1 } : World) = w6 at *
          replace HO := hid (HO.out.grow hb)
          replace HG := hid (Grow.trans HG.out hb)
          replace HR := hid (grow_block HR.out hb)
          clear hb
          go_wp2_with (first | (refine op_loadAt (l := y) rfl rfl rfl (fun j v hv => grow_cell (HCy.out j v hv) HG.out) Hy32.out ?_) | (refine op_storeId (l := y) rfl rfl rfl rfl rfl HR.out (by rfl) Hy32.out ?_))
          intro w7 hz hgz hbz
          replace HO := hid (own_store HO.out hgz HNE.out)
          replace HG := hid (hbz _ _ HG.out HGL.out)
          clear HR
          have HR := hid hz
          clear hz hgz hbz
          go_wp2_with (refine op_callFn (f := f) (cap := #[]) (u1 := .bool false) (u2 := .bool true) (v := .bool (cnt false true)) rfl rfl rfl rfl rfl HE.out (HF.out false true _) ?_)
          intro w8 hb
          replace HO := hid (HO.out.grow hb)
          replace HG := hid (Grow.trans HG.out hb)
          replace HR := hid (grow_block HR.out hb)
          clear hb
          have HN2 := hid (show (x :: a).length + b.length ≤ m by have := HN.out; simp at this ⊢; omega)
          cases hcnt : cnt false true with
          | true =>
            have HCNT := hid hcnt
            clear hcnt
            have HM2 := hid (show (o ++ [y]) ++ mergeN cnt m (x :: a) b = mergeN cnt (xs.length + ys.length) xs ys by rw [← HM.out, mergeN, if_pos HYX.out, HCNT.out]; simp)
            have HMX2 := hid (show (o ++ [y]).length + ((x :: a).length + b.length) ≤ 1000000 by have := HMX.out; simp at this ⊢; omega)
            have hol : o.length ≤ 1000000 := by have := HMX.out; omega
            go_wp2_with (first | (refine op_loadId rfl rfl rfl HR.out Hy32.out ?_) | (refine op_appIds1 (w0 := w) (l1 := y) rfl rfl rfl rfl rfl rfl (fun _ => rfl) (fun _ => rfl) Hy32.out HO.out HG.out HG.out.size (by omega) ?_))
            intro u10 v10 w9 ho hb hs
            clear HO HG
            have HO := hid ho
            have HG := hid hb
            clear ho hb hs hol
            go_wp2
            go_roundg (m + 1)
            case rel => exact ⟨m, (x :: a), b, some ad, some (tailA bd cb'), ca', cb' - 1, o ++ [y], rfl, HN2, by first | rfl | simp, by first | rfl | simp, HM2, HX, HYt, H1, H2t, HC1, HC2t, HMX2, HO, HG⟩
            case measure => omega
          | false =>
            have HCNT := hid hcnt
            clear hcnt
            have HM2 := hid (show o ++ mergeN cnt m (x :: a) b = mergeN cnt (xs.length + ys.length) xs ys by rw [← HM.out, mergeN, if_pos HYX.out, HCNT.out]; simp)
            have HMX2 := hid (show o.length + ((x :: a).length + b.length) ≤ 1000000 by have := HMX.out; simp at this ⊢; omega)
            go_wp2
            go_roundg (m + 1)
            case rel => exact ⟨m, (x :: a), b, some ad, some (tailA bd cb'), ca', cb' - 1, o, rfl, HN2, by first | rfl | simp, by first | rfl | simp, HM2, HX, HYt, H1, H2t, HC1, HC2t, HMX2, HO, HG⟩
            case measure => omega
        | false =>
          cases hxy : lexLess x y with
          | true =>
            have HYX := hid hyx
            have HXY := hid hxy
            go_wp2_with fail
            (refine' wp_region_head 19 0 [_, _, _, _, _, _, _, _, _, _, _, _, _, _, _, _, _, _, _] rfl (by kernel_rfl) (by kernel_rfl) ?hreg129; case' hreg129 => simp only [List.take_succ_cons, List.take_zero, List.zip_cons_cons, List.zip_nil_right, List.drop_succ_cons, List.drop_zero, List.drop_nil])
            (refine' head_val ?dw130 ?de130 ?dr130 ?dh130; (case' dw130 => rfl); (case' de130 => (first | exact fun _ _ _ => trivial | (intro t ht w; cases ht; simp [upE]))); (case' dr130 => (intro w' hw' _; go_simp; with_reducible rfl)); (case' dh130 => (try simp only [Act.put, List.setIfInBounds_toArray, List.set_cons_zero, List.set_cons_succ]))); (refine' head_val ?dw131 ?de131 ?dr131 ?dh131; (case' dw131 => rfl); (case' de131 => (first | exact fun _ _ _ => trivial | (intro t ht w; cases ht; simp [upE]))); (case' dr131 => (intro w' hw' _; go_simp; with_reducible rfl)); (case' dh131 => (try simp only [Act.put, List.setIfInBounds_toArray, List.set_cons_zero, List.set_cons_succ]))); (refine' head_val ?dw132 ?de132 ?dr132 ?dh132; (case' dw132 => rfl); (case' de132 => (first | exact fun _ _ _ => trivial | (intro t ht w; cases ht; simp [upE]))); (case' dr132 => (intro w' hw' _; go_simp; with_reducible rfl)); (case' dh132 => (try simp only [Act.put, List.setIfInBounds_toArray, List.set_cons_zero, List.set_cons_succ]))); (refine' head_val ?dw133 ?de133 ?dr133 ?dh133; (case' dw133 => rfl); (case' de133 => (first | exact fun _ _ _ => trivial | (intro t ht w; cases ht; simp [upE]))); (case' dr133 => (intro w' hw' _; go_simp; with_reducible rfl)); (case' dh133 => (try simp only [Act.put, List.setIfInBounds_toArray, List.set_cons_zero, List.set_cons_succ]))); (refine' head_val ?dw134 ?de134 ?dr134 ?dh134; (case' dw134 => rfl); (case' de134 => (first | exact fun _ _ _ => trivial | (intro t ht w; cases ht; simp [upE]))); (case' dr134 => (intro w' hw' _; go_simp; with_reducible rfl)); (case' dh134 => (try simp only [Act.put, List.setIfInBounds_toArray, List.set_cons_zero, List.set_cons_succ]))); (refine' head_val ?dw135 ?de135 ?dr135 ?dh135; (case' dw135 => rfl); (case' de135 => (first | exact fun _ _ _ => trivial | (intro t ht w; cases ht; simp [upE]))); (case' dr135 => (intro w' hw' _; go_simp; with_reducible rfl)); (case' dh135 => (try simp only [Act.put, List.setIfInBounds_toArray, List.set_cons_zero, List.set_cons_succ]))); (refine' head_val ?dw136 ?de136 ?dr136 ?dh136; (case' dw136 => rfl); (case' de136 => (first | exact fun _ _ _ => trivial | (intro t ht w; cases ht; simp [upE]))); (case' dr136 => (intro w' hw' _; go_simp; with_reducible rfl)); (case' dh136 => (try simp only [Act.put, List.setIfInBounds_toArray, List.set_cons_zero, List.set_cons_succ]))); (refine' head_val ?dw137 ?de137 ?dr137 ?dh137; (case' dw137 => rfl); (case' de137 => (first | exact fun _ _ _ => trivial | (intro t ht w; cases ht; simp [upE]))); (case' dr137 => (intro w' hw' _; go_simp; with_reducible rfl)); (case' dh137 => (try simp only [Act.put, List.setIfInBounds_toArray, List.set_cons_zero, List.set_cons_succ]))); (refine' head_val ?dw138 ?de138 ?dr138 ?dh138; (case' dw138 => rfl); (case' de138 => (first | exact fun _ _ _ => trivial | (intro t ht w; cases ht; simp [upE]))); (case' dr138 => (intro w' hw' _; go_simp; with_reducible rfl)); (case' dh138 => (try simp only [Act.put, List.setIfInBounds_toArray, List.set_cons_zero, List.set_cons_succ]))); (refine' head_val ?dw139 ?de139 ?dr139 ?dh139; (case' dw139 => rfl); (case' de139 => (first | exact fun _ _ _ => trivial | (intro t ht w; cases ht; simp [upE]))); (case' dr139 => (intro w' hw' _; go_simp; with_reducible rfl)); (case' dh139 => (try simp only [Act.put, List.setIfInBounds_toArray, List.set_cons_zero, List.set_cons_succ])))
            (refine' head_loadAt (x := _) rfl ?_ rfl rfl (fun j v hv => grow_cell (HCy.out j v hv) HG.out) (Hy32.out) ?_; (first | exact fun _ _ _ => trivial | (intro t ht w; cases ht; simp [upE])); try simp only [Act.put, List.setIfInBounds_toArray, List.set_cons_zero, List.set_cons_succ])
            (refine' head_val ?dw140 ?de140 ?dr140 ?dh140; (case' dw140 => rfl); (case' de140 => (first | exact fun _ _ _ => trivial | (intro t ht w; cases ht; simp [upE]))); (case' dr140 => (intro w' hw' _; go_simp; with_reducible rfl)); (case' dh140 => (try simp only [Act.put, List.setIfInBounds_toArray, List.set_cons_zero, List.set_cons_succ]))); (refine' head_val ?dw141 ?de141 ?dr141 ?dh141; (case' dw141 => rfl); (case' de141 => (first | exact fun _ _ _ => trivial | (intro t ht w; cases ht; simp [upE]))); (case' dr141 => (intro w' hw' _; go_simp; with_reducible rfl)); (case' dh141 => (try simp only [Act.put, List.setIfInBounds_toArray, List.set_cons_zero, List.set_cons_succ])))
            (refine' head_loadAt (x := _) rfl ?_ rfl rfl (fun j v hv => grow_cell (HCx.out j v hv) HG.out) (Hx32.out) ?_; (first | exact fun _ _ _ => trivial | (intro t ht w; cases ht; simp [upE])); try simp only [Act.put, List.setIfInBounds_toArray, List.set_cons_zero, List.set_cons_succ])
            (refine' head_call ?cw142 ?ce142 ?cr142 ?cc142 ?ch142; (case' cw142 => rfl); (case' ce142 => (first | exact fun _ _ _ => trivial | (intro t ht w; cases ht; simp [upE]))); (case' cr142 => (intro w'; go_simp; first | exact ⟨rfl, rfl⟩ | with_reducible rfl)); (case' cc142 => (intro w' hw' _; exact idLess y x Hy32.out Hx32.out w')); (case' ch142 => (try simp only [Act.put, List.setIfInBounds_toArray, List.set_cons_zero, List.set_cons_succ])))
            (refine' head_val ?dw143 ?de143 ?dr143 ?dh143; (case' dw143 => rfl); (case' de143 => (first | exact fun _ _ _ => trivial | (intro t ht w; cases ht; simp [upE]))); (case' dr143 => (intro w' hw' _; go_simp; with_reducible rfl)); (case' dh143 => (try simp only [Act.put, List.setIfInBounds_toArray, List.set_cons_zero, List.set_cons_succ]))); (refine' head_val ?dw144 ?de144 ?dr144 ?dh144; (case' dw144 => rfl); (case' de144 => (first | exact fun _ _ _ => trivial | (intro t ht w; cases ht; simp [upE]))); (case' dr144 => (intro w' hw' _; go_simp; with_reducible rfl)); (case' dh144 => (try simp only [Act.put, List.setIfInBounds_toArray, List.set_cons_zero, List.set_cons_succ]))); (refine' head_val ?dw145 ?de145 ?dr145 ?dh145; (case' dw145 => rfl); (case' de145 => (first | exact fun _ _ _ => trivial | (intro t ht w; cases ht; simp [upE]))); (case' dr145 => (intro w' hw' _; go_simp; with_reducible rfl)); (case' dh145 => (try simp only [Act.put, List.setIfInBounds_toArray, List.set_cons_zero, List.set_cons_succ]))); (refine' head_val ?dw146 ?de146 ?dr146 ?dh146; (case' dw146 => rfl); (case' de146 => (first | exact fun _ _ _ => trivial | (intro t ht w; cases ht; simp [upE]))); (case' dr146 => (intro w' hw' _; go_simp; with_reducible rfl)); (case' dh146 => (try simp only [Act.put, List.setIfInBounds_toArray, List.set_cons_zero, List.set_cons_succ])))
            refine head_nil ?_
            intro w3 hb _
            refine wpList_nil ?_
            replace HO := hid (HO.out.grow hb)
            replace HG := hid (Grow.trans HG.out hb)
            clear hb
            go_wp2_with fail
            (refine' wp_region_head 19 0 [_, _, _, _, _, _, _, _, _, _, _, _, _, _, _, _, _, _, _] rfl (by kernel_rfl) (by kernel_rfl) ?hreg147; case' hreg147 => simp only [List.take_succ_cons, List.take_zero, List.zip_cons_cons, List.zip_nil_right, List.drop_succ_cons, List.drop_zero, List.drop_nil])
            (refine' head_val ?dw148 ?de148 ?dr148 ?dh148; (case' dw148 => rfl); (case' de148 => (first | exact fun _ _ _ => trivial | (intro t ht w; cases ht; simp [upE]))); (case' dr148 => (intro w' hw' _; go_simp; with_reducible rfl)); (case' dh148 => (try simp only [Act.put, List.setIfInBounds_toArray, List.set_cons_zero, List.set_cons_succ]))); (refine' head_val ?dw149 ?de149 ?dr149 ?dh149; (case' dw149 => rfl); (case' de149 => (first | exact fun _ _ _ => trivial | (intro t ht w; cases ht; simp [upE]))); (case' dr149 => (intro w' hw' _; go_simp; with_reducible rfl)); (case' dh149 => (try simp only [Act.put, List.setIfInBounds_toArray, List.set_cons_zero, List.set_cons_succ]))); (refine' head_val ?dw150 ?de150 ?dr150 ?dh150; (case' dw150 => rfl); (case' de150 => (first | exact fun _ _ _ => trivial | (intro t ht w; cases ht; simp [upE]))); (case' dr150 => (intro w' hw' _; go_simp; with_reducible rfl)); (case' dh150 => (try simp only [Act.put, List.setIfInBounds_toArray, List.set_cons_zero, List.set_cons_succ]))); (refine' head_val ?dw151 ?de151 ?dr151 ?dh151; (case' dw151 => rfl); (case' de151 => (first | exact fun _ _ _ => trivial | (intro t ht w; cases ht; simp [upE]))); (case' dr151 => (intro w' hw' _; go_simp; with_reducible rfl)); (case' dh151 => (try simp only [Act.put, List.setIfInBounds_toArray, List.set_cons_zero, List.set_cons_succ]))); (refine' head_val ?dw152 ?de152 ?dr152 ?dh152; (case' dw152 => rfl); (case' de152 => (first | exact fun _ _ _ => trivial | (intro t ht w; cases ht; simp [upE]))); (case' dr152 => (intro w' hw' _; go_simp; with_reducible rfl)); (case' dh152 => (try simp only [Act.put, List.setIfInBounds_toArray, List.set_cons_zero, List.set_cons_succ]))); (refine' head_val ?dw153 ?de153 ?dr153 ?dh153; (case' dw153 => rfl); (case' de153 => (first | exact fun _ _ _ => trivial | (intro t ht w; cases ht; simp [upE]))); (case' dr153 => (intro w' hw' _; go_simp; with_reducible rfl)); (case' dh153 => (try simp only [Act.put, List.setIfInBounds_toArray, List.set_cons_zero, List.set_cons_succ]))); (refine' head_val ?dw154 ?de154 ?dr154 ?dh154; (case' dw154 => rfl); (case' de154 => (first | exact fun _ _ _ => trivial | (intro t ht w; cases ht; simp [upE]))); (case' dr154 => (intro w' hw' _; go_simp; with_reducible rfl)); (case' dh154 => (try simp only [Act.put, List.setIfInBounds_toArray, List.set_cons_zero, List.set_cons_succ]))); (refine' head_val ?dw155 ?de155 ?dr155 ?dh155; (case' dw155 => rfl); (case' de155 => (first | exact fun _ _ _ => trivial | (intro t ht w; cases ht; simp [upE]))); (case' dr155 => (intro w' hw' _; go_simp; with_reducible rfl)); (case' dh155 => (try simp only [Act.put, List.setIfInBounds_toArray, List.set_cons_zero, List.set_cons_succ]))); (refine' head_val ?dw156 ?de156 ?dr156 ?dh156; (case' dw156 => rfl); (case' de156 => (first | exact fun _ _ _ => trivial | (intro t ht w; cases ht; simp [upE]))); (case' dr156 => (intro w' hw' _; go_simp; with_reducible rfl)); (case' dh156 => (try simp only [Act.put, List.setIfInBounds_toArray, List.set_cons_zero, List.set_cons_succ]))); (refine' head_val ?dw157 ?de157 ?dr157 ?dh157; (case' dw157 => rfl); (case' de157 => (first | exact fun _ _ _ => trivial | (intro t ht w; cases ht; simp [upE]))); (case' dr157 => (intro w' hw' _; go_simp; with_reducible rfl)); (case' dh157 => (try simp only [Act.put, List.setIfInBounds_toArray, List.set_cons_zero, List.set_cons_succ])))
            (refine' head_loadAt (x := _) rfl ?_ rfl rfl (fun j v hv => grow_cell (HCx.out j v hv) HG.out) (Hx32.out) ?_; (first | exact fun _ _ _ => trivial | (intro t ht w; cases ht; simp [upE])); try simp only [Act.put, List.setIfInBounds_toArray, List.set_cons_zero, List.set_cons_succ])
            (refine' head_val ?dw158 ?de158 ?dr158 ?dh158; (case' dw158 => rfl); (case' de158 => (first | exact fun _ _ _ => trivial | (intro t ht w; cases ht; simp [upE]))); (case' dr158 => (intro w' hw' _; go_simp; with_reducible rfl)); (case' dh158 => (try simp only [Act.put, List.setIfInBounds_toArray, List.set_cons_zero, List.set_cons_succ]))); (refine' head_val ?dw159 ?de159 ?dr159 ?dh159; (case' dw159 => rfl); (case' de159 => (first | exact fun _ _ _ => trivial | (intro t ht w; cases ht; simp [upE]))); (case' dr159 => (intro w' hw' _; go_simp; with_reducible rfl)); (case' dh159 => (try simp only [Act.put, List.setIfInBounds_toArray, List.set_cons_zero, List.set_cons_succ])))
            (refine' head_loadAt (x := _) rfl ?_ rfl rfl (fun j v hv => grow_cell (HCy.out j v hv) HG.out) (Hy32.out) ?_; (first | exact fun _ _ _ => trivial | (intro t ht w; cases ht; simp [upE])); try simp only [Act.put, List.setIfInBounds_toArray, List.set_cons_zero, List.set_cons_succ])
            (refine' head_call ?cw160 ?ce160 ?cr160 ?cc160 ?ch160; (case' cw160 => rfl); (case' ce160 => (first | exact fun _ _ _ => trivial | (intro t ht w; cases ht; simp [upE]))); (case' cr160 => (intro w'; go_simp; first | exact ⟨rfl, rfl⟩ | with_reducible rfl)); (case' cc160 => (intro w' hw' _; exact idLess x y Hx32.out Hy32.out w')); (case' ch160 => (try simp only [Act.put, List.setIfInBounds_toArray, List.set_cons_zero, List.set_cons_succ])))
            (refine' head_val ?dw161 ?de161 ?dr161 ?dh161; (case' dw161 => rfl); (case' de161 => (first | exact fun _ _ _ => trivial | (intro t ht w; cases ht; simp [upE]))); (case' dr161 => (intro w' hw' _; go_simp; with_reducible rfl)); (case' dh161 => (try simp only [Act.put, List.setIfInBounds_toArray, List.set_cons_zero, List.set_cons_succ]))); (refine' head_val ?dw162 ?de162 ?dr162 ?dh162; (case' dw162 => rfl); (case' de162 => (first | exact fun _ _ _ => trivial | (intro t ht w; cases ht; simp [upE]))); (case' dr162 => (intro w' hw' _; go_simp; with_reducible rfl)); (case' dh162 => (try simp only [Act.put, List.setIfInBounds_toArray, List.set_cons_zero, List.set_cons_succ]))); (refine' head_val ?dw163 ?de163 ?dr163 ?dh163; (case' dw163 => rfl); (case' de163 => (first | exact fun _ _ _ => trivial | (intro t ht w; cases ht; simp [upE]))); (case' dr163 => (intro w' hw' _; go_simp; with_reducible rfl)); (case' dh163 => (try simp only [Act.put, List.setIfInBounds_toArray, List.set_cons_zero, List.set_cons_succ]))); (refine' head_val ?dw164 ?de164 ?dr164 ?dh164; (case' dw164 => rfl); (case' de164 => (first | exact fun _ _ _ => trivial | (intro t ht w; cases ht; simp [upE]))); (case' dr164 => (intro w' hw' _; go_simp; with_reducible rfl)); (case' dh164 => (try simp only [Act.put, List.setIfInBounds_toArray, List.set_cons_zero, List.set_cons_succ])))
            clear hyx hxy
            refine head_nil ?_
            intro w4 hb _
            refine wpList_nil ?_
            replace HO := hid (HO.out.grow hb)
            replace HG := hid (Grow.trans HG.out hb)
            clear hb
            go_wp2_with (refine op_alloc rfl rfl ?_)
            intro g10 w5 hgl _ hb hr
            have HNE := hid (own_ne HO.out hgl)
            have HGL := hid (Nat.le_trans HG.out.size hgl)
            replace HO := hid (HO.out.grow hb)
            replace HG := hid (Grow.trans HG.out hb)
            have HR := hid hr
            clear hgl hb hr
            try simp only [Act.put, List.setIfInBounds_toArray, List.set_cons_zero, List.set_cons_succ]
            go_wp2_with fail
            refine wp_region_pick [0, 1, 3, 4] [2, 5, 6] rfl (by kernel_rfl) rfl (by kernel_rfl) ?_
            (refine' pick_val (by rfl) ?pw165 ?pr165 ?pq165 ?ph165; (case' pw165 => rfl); (case' pq165 => (exact fun _ _ _ h => h)); (case' pr165 => (intro w'; go_simp; with_reducible rfl)); (case' ph165 => (try simp only [List.getElem_toArray, List.getElem_cons_zero, List.getElem_cons_succ, Act.put, List.setIfInBounds_toArray, List.set_cons_zero, List.set_cons_succ]))); (refine' pick_val (by rfl) ?pw166 ?pr166 ?pq166 ?ph166; (case' pw166 => rfl); (case' pq166 => (exact fun _ _ _ h => h)); (case' pr166 => (intro w'; go_simp; with_reducible rfl)); (case' ph166 => (try simp only [List.getElem_toArray, List.getElem_cons_zero, List.getElem_cons_succ, Act.put, List.setIfInBounds_toArray, List.set_cons_zero, List.set_cons_succ]))); (refine' pick_val (by rfl) ?pw167 ?pr167 ?pq167 ?ph167; (case' pw167 => rfl); (case' pq167 => (exact fun _ _ _ h => h)); (case' pr167 => (intro w'; go_simp; with_reducible rfl)); (case' ph167 => (try simp only [List.getElem_toArray, List.getElem_cons_zero, List.getElem_cons_succ, Act.put, List.setIfInBounds_toArray, List.set_cons_zero, List.set_cons_succ]))); (refine' pick_val (by rfl) ?pw168 ?pr168 ?pq168 ?ph168; (case' pw168 => rfl); (case' pq168 => (exact fun _ _ _ h => h)); (case' pr168 => (intro w'; go_simp; with_reducible rfl)); (case' ph168 => (try simp only [List.getElem_toArray, List.getElem_cons_zero, List.getElem_cons_succ, Act.put, List.setIfInBounds_toArray, List.set_cons_zero, List.set_cons_succ])))
            (refine pick_nil ?_; show wpList _ _ _ (_ :: _ :: _ :: []) _ _)
            have hb := grow_drawn w5
            generalize ({ w5 with drawn := w5.drawn + 1 } : World) = w6 at *
            replace HO := hid (HO.out.grow hb)
            replace HG := hid (Grow.trans HG.out hb)
            replace HR := hid (grow_block HR.out hb)
            clear hb
            go_wp2_with (first | (refine op_loadAt (l := x) rfl rfl rfl (fun j v hv => grow_cell (HCx.out j v hv) HG.out) Hx32.out ?_) | (refine op_storeId (l := x) rfl rfl rfl rfl rfl HR.out (by rfl) Hx32.out ?_))
            intro w7 hz hgz hbz
            replace HO := hid (own_store HO.out hgz HNE.out)
            replace HG := hid (hbz _ _ HG.out HGL.out)
            clear HR
            have HR := hid hz
            clear hz hgz hbz
            go_wp2_with (refine op_callFn (f := f) (cap := #[]) (u1 := .bool true) (u2 := .bool false) (v := .bool (cnt true false)) rfl rfl rfl rfl rfl HE.out (HF.out true false _) ?_)
            intro w8 hb
            replace HO := hid (HO.out.grow hb)
            replace HG := hid (Grow.trans HG.out hb)
            replace HR := hid (grow_block HR.out hb)
            clear hb
            have HN2 := hid (show a.length + (y :: b).length ≤ m by have := HN.out; simp at this ⊢; omega)
            cases hcnt : cnt true false with
            | true =>
              have HCNT := hid hcnt
              clear hcnt
              have HM2 := hid (show (o ++ [x]) ++ mergeN cnt m a (y :: b) = mergeN cnt (xs.length + ys.length) xs ys by rw [← HM.out, mergeN, if_neg (by rw [HYX.out]; simp), if_pos HXY.out, HCNT.out]; simp)
              have HMX2 := hid (show (o ++ [x]).length + (a.length + (y :: b).length) ≤ 1000000 by have := HMX.out; simp at this ⊢; omega)
              have hol : o.length ≤ 1000000 := by have := HMX.out; omega
              go_wp2_with (first | (refine op_loadId rfl rfl rfl HR.out Hx32.out ?_) | (refine op_appIds1 (w0 := w) (l1 := x) rfl rfl rfl rfl rfl rfl (fun _ => rfl) (fun _ => rfl) Hx32.out HO.out HG.out HG.out.size (by omega) ?_))
              intro u10 v10 w9 ho hb hs
              clear HO HG
              have HO := hid ho
              have HG := hid hb
              clear ho hb hs hol
              go_wp2
              go_roundg (m + 1)
              case rel => exact ⟨m, a, (y :: b), some (tailA ad ca'), some bd, ca' - 1, cb', o ++ [x], rfl, HN2, by first | rfl | simp, by first | rfl | simp, HM2, HXt, HY, H1t, H2, HC1t, HC2, HMX2, HO, HG⟩
              case measure => omega
            | false =>
              have HCNT := hid hcnt
              clear hcnt
              have HM2 := hid (show o ++ mergeN cnt m a (y :: b) = mergeN cnt (xs.length + ys.length) xs ys by rw [← HM.out, mergeN, if_neg (by rw [HYX.out]; simp), if_pos HXY.out, HCNT.out]; simp)
              have HMX2 := hid (show o.length + (a.length + (y :: b).length) ≤ 1000000 by have := HMX.out; simp at this ⊢; omega)
              go_wp2
              go_roundg (m + 1)
              case rel => exact ⟨m, a, (y :: b), some (tailA ad ca'), some bd, ca' - 1, cb', o, rfl, HN2, by first | rfl | simp, by first | rfl | simp, HM2, HXt, HY, H1t, H2, HC1t, HC2, HMX2, HO, HG⟩
              case measure => omega
          | false =>
            have HYX := hid hyx
            have HXY := hid hxy
            go_wp2_with fail
            (refine' wp_region_head 19 0 [_, _, _, _, _, _, _, _, _, _, _, _, _, _, _, _, _, _, _] rfl (by kernel_rfl) (by kernel_rfl) ?hreg169; case' hreg169 => simp only [List.take_succ_cons, List.take_zero, List.zip_cons_cons, List.zip_nil_right, List.drop_succ_cons, List.drop_zero, List.drop_nil])
            (refine' head_val ?dw170 ?de170 ?dr170 ?dh170; (case' dw170 => rfl); (case' de170 => (first | exact fun _ _ _ => trivial | (intro t ht w; cases ht; simp [upE]))); (case' dr170 => (intro w' hw' _; go_simp; with_reducible rfl)); (case' dh170 => (try simp only [Act.put, List.setIfInBounds_toArray, List.set_cons_zero, List.set_cons_succ]))); (refine' head_val ?dw171 ?de171 ?dr171 ?dh171; (case' dw171 => rfl); (case' de171 => (first | exact fun _ _ _ => trivial | (intro t ht w; cases ht; simp [upE]))); (case' dr171 => (intro w' hw' _; go_simp; with_reducible rfl)); (case' dh171 => (try simp only [Act.put, List.setIfInBounds_toArray, List.set_cons_zero, List.set_cons_succ]))); (refine' head_val ?dw172 ?de172 ?dr172 ?dh172; (case' dw172 => rfl); (case' de172 => (first | exact fun _ _ _ => trivial | (intro t ht w; cases ht; simp [upE]))); (case' dr172 => (intro w' hw' _; go_simp; with_reducible rfl)); (case' dh172 => (try simp only [Act.put, List.setIfInBounds_toArray, List.set_cons_zero, List.set_cons_succ]))); (refine' head_val ?dw173 ?de173 ?dr173 ?dh173; (case' dw173 => rfl); (case' de173 => (first | exact fun _ _ _ => trivial | (intro t ht w; cases ht; simp [upE]))); (case' dr173 => (intro w' hw' _; go_simp; with_reducible rfl)); (case' dh173 => (try simp only [Act.put, List.setIfInBounds_toArray, List.set_cons_zero, List.set_cons_succ]))); (refine' head_val ?dw174 ?de174 ?dr174 ?dh174; (case' dw174 => rfl); (case' de174 => (first | exact fun _ _ _ => trivial | (intro t ht w; cases ht; simp [upE]))); (case' dr174 => (intro w' hw' _; go_simp; with_reducible rfl)); (case' dh174 => (try simp only [Act.put, List.setIfInBounds_toArray, List.set_cons_zero, List.set_cons_succ]))); (refine' head_val ?dw175 ?de175 ?dr175 ?dh175; (case' dw175 => rfl); (case' de175 => (first | exact fun _ _ _ => trivial | (intro t ht w; cases ht; simp [upE]))); (case' dr175 => (intro w' hw' _; go_simp; with_reducible rfl)); (case' dh175 => (try simp only [Act.put, List.setIfInBounds_toArray, List.set_cons_zero, List.set_cons_succ]))); (refine' head_val ?dw176 ?de176 ?dr176 ?dh176; (case' dw176 => rfl); (case' de176 => (first | exact fun _ _ _ => trivial | (intro t ht w; cases ht; simp [upE]))); (case' dr176 => (intro w' hw' _; go_simp; with_reducible rfl)); (case' dh176 => (try simp only [Act.put, List.setIfInBounds_toArray, List.set_cons_zero, List.set_cons_succ]))); (refine' head_val ?dw177 ?de177 ?dr177 ?dh177; (case' dw177 => rfl); (case' de177 => (first | exact fun _ _ _ => trivial | (intro t ht w; cases ht; simp [upE]))); (case' dr177 => (intro w' hw' _; go_simp; with_reducible rfl)); (case' dh177 => (try simp only [Act.put, List.setIfInBounds_toArray, List.set_cons_zero, List.set_cons_succ]))); (refine' head_val ?dw178 ?de178 ?dr178 ?dh178; (case' dw178 => rfl); (case' de178 => (first | exact fun _ _ _ => trivial | (intro t ht w; cases ht; simp [upE]))); (case' dr178 => (intro w' hw' _; go_simp; with_reducible rfl)); (case' dh178 => (try simp only [Act.put, List.setIfInBounds_toArray, List.set_cons_zero, List.set_cons_succ]))); (refine' head_val ?dw179 ?de179 ?dr179 ?dh179; (case' dw179 => rfl); (case' de179 => (first | exact fun _ _ _ => trivial | (intro t ht w; cases ht; simp [upE]))); (case' dr179 => (intro w' hw' _; go_simp; with_reducible rfl)); (case' dh179 => (try simp only [Act.put, List.setIfInBounds_toArray, List.set_cons_zero, List.set_cons_succ])))
            (refine' head_loadAt (x := _) rfl ?_ rfl rfl (fun j v hv => grow_cell (HCy.out j v hv) HG.out) (Hy32.out) ?_; (first | exact fun _ _ _ => trivial | (intro t ht w; cases ht; simp [upE])); try simp only [Act.put, List.setIfInBounds_toArray, List.set_cons_zero, List.set_cons_succ])
            (refine' head_val ?dw180 ?de180 ?dr180 ?dh180; (case' dw180 => rfl); (case' de180 => (first | exact fun _ _ _ => trivial | (intro t ht w; cases ht; simp [upE]))); (case' dr180 => (intro w' hw' _; go_simp; with_reducible rfl)); (case' dh180 => (try simp only [Act.put, List.setIfInBounds_toArray, List.set_cons_zero, List.set_cons_succ]))); (refine' head_val ?dw181 ?de181 ?dr181 ?dh181; (case' dw181 => rfl); (case' de181 => (first | exact fun _ _ _ => trivial | (intro t ht w; cases ht; simp [upE]))); (case' dr181 => (intro w' hw' _; go_simp; with_reducible rfl)); (case' dh181 => (try simp only [Act.put, List.setIfInBounds_toArray, List.set_cons_zero, List.set_cons_succ])))
            (refine' head_loadAt (x := _) rfl ?_ rfl rfl (fun j v hv => grow_cell (HCx.out j v hv) HG.out) (Hx32.out) ?_; (first | exact fun _ _ _ => trivial | (intro t ht w; cases ht; simp [upE])); try simp only [Act.put, List.setIfInBounds_toArray, List.set_cons_zero, List.set_cons_succ])
            (refine' head_call ?cw182 ?ce182 ?cr182 ?cc182 ?ch182; (case' cw182 => rfl); (case' ce182 => (first | exact fun _ _ _ => trivial | (intro t ht w; cases ht; simp [upE]))); (case' cr182 => (intro w'; go_simp; first | exact ⟨rfl, rfl⟩ | with_reducible rfl)); (case' cc182 => (intro w' hw' _; exact idLess y x Hy32.out Hx32.out w')); (case' ch182 => (try simp only [Act.put, List.setIfInBounds_toArray, List.set_cons_zero, List.set_cons_succ])))
            (refine' head_val ?dw183 ?de183 ?dr183 ?dh183; (case' dw183 => rfl); (case' de183 => (first | exact fun _ _ _ => trivial | (intro t ht w; cases ht; simp [upE]))); (case' dr183 => (intro w' hw' _; go_simp; with_reducible rfl)); (case' dh183 => (try simp only [Act.put, List.setIfInBounds_toArray, List.set_cons_zero, List.set_cons_succ]))); (refine' head_val ?dw184 ?de184 ?dr184 ?dh184; (case' dw184 => rfl); (case' de184 => (first | exact fun _ _ _ => trivial | (intro t ht w; cases ht; simp [upE]))); (case' dr184 => (intro w' hw' _; go_simp; with_reducible rfl)); (case' dh184 => (try simp only [Act.put, List.setIfInBounds_toArray, List.set_cons_zero, List.set_cons_succ]))); (refine' head_val ?dw185 ?de185 ?dr185 ?dh185; (case' dw185 => rfl); (case' de185 => (first | exact fun _ _ _ => trivial | (intro t ht w; cases ht; simp [upE]))); (case' dr185 => (intro w' hw' _; go_simp; with_reducible rfl)); (case' dh185 => (try simp only [Act.put, List.setIfInBounds_toArray, List.set_cons_zero, List.set_cons_succ]))); (refine' head_val ?dw186 ?de186 ?dr186 ?dh186; (case' dw186 => rfl); (case' de186 => (first | exact fun _ _ _ => trivial | (intro t ht w; cases ht; simp [upE]))); (case' dr186 => (intro w' hw' _; go_simp; with_reducible rfl)); (case' dh186 => (try simp only [Act.put, List.setIfInBounds_toArray, List.set_cons_zero, List.set_cons_succ])))
            refine head_nil ?_
            intro w3 hb _
            refine wpList_nil ?_
            replace HO := hid (HO.out.grow hb)
            replace HG := hid (Grow.trans HG.out hb)
            clear hb
            go_wp2_with fail
            (refine' wp_region_head 19 0 [_, _, _, _, _, _, _, _, _, _, _, _, _, _, _, _, _, _, _] rfl (by kernel_rfl) (by kernel_rfl) ?hreg187; case' hreg187 => simp only [List.take_succ_cons, List.take_zero, List.zip_cons_cons, List.zip_nil_right, List.drop_succ_cons, List.drop_zero, List.drop_nil])
            (refine' head_val ?dw188 ?de188 ?dr188 ?dh188; (case' dw188 => rfl); (case' de188 => (first | exact fun _ _ _ => trivial | (intro t ht w; cases ht; simp [upE]))); (case' dr188 => (intro w' hw' _; go_simp; with_reducible rfl)); (case' dh188 => (try simp only [Act.put, List.setIfInBounds_toArray, List.set_cons_zero, List.set_cons_succ]))); (refine' head_val ?dw189 ?de189 ?dr189 ?dh189; (case' dw189 => rfl); (case' de189 => (first | exact fun _ _ _ => trivial | (intro t ht w; cases ht; simp [upE]))); (case' dr189 => (intro w' hw' _; go_simp; with_reducible rfl)); (case' dh189 => (try simp only [Act.put, List.setIfInBounds_toArray, List.set_cons_zero, List.set_cons_succ]))); (refine' head_val ?dw190 ?de190 ?dr190 ?dh190; (case' dw190 => rfl); (case' de190 => (first | exact fun _ _ _ => trivial | (intro t ht w; cases ht; simp [upE]))); (case' dr190 => (intro w' hw' _; go_simp; with_reducible rfl)); (case' dh190 => (try simp only [Act.put, List.setIfInBounds_toArray, List.set_cons_zero, List.set_cons_succ]))); (refine' head_val ?dw191 ?de191 ?dr191 ?dh191; (case' dw191 => rfl); (case' de191 => (first | exact fun _ _ _ => trivial | (intro t ht w; cases ht; simp [upE]))); (case' dr191 => (intro w' hw' _; go_simp; with_reducible rfl)); (case' dh191 => (try simp only [Act.put, List.setIfInBounds_toArray, List.set_cons_zero, List.set_cons_succ]))); (refine' head_val ?dw192 ?de192 ?dr192 ?dh192; (case' dw192 => rfl); (case' de192 => (first | exact fun _ _ _ => trivial | (intro t ht w; cases ht; simp [upE]))); (case' dr192 => (intro w' hw' _; go_simp; with_reducible rfl)); (case' dh192 => (try simp only [Act.put, List.setIfInBounds_toArray, List.set_cons_zero, List.set_cons_succ]))); (refine' head_val ?dw193 ?de193 ?dr193 ?dh193; (case' dw193 => rfl); (case' de193 => (first | exact fun _ _ _ => trivial | (intro t ht w; cases ht; simp [upE]))); (case' dr193 => (intro w' hw' _; go_simp; with_reducible rfl)); (case' dh193 => (try simp only [Act.put, List.setIfInBounds_toArray, List.set_cons_zero, List.set_cons_succ]))); (refine' head_val ?dw194 ?de194 ?dr194 ?dh194; (case' dw194 => rfl); (case' de194 => (first | exact fun _ _ _ => trivial | (intro t ht w; cases ht; simp [upE]))); (case' dr194 => (intro w' hw' _; go_simp; with_reducible rfl)); (case' dh194 => (try simp only [Act.put, List.setIfInBounds_toArray, List.set_cons_zero, List.set_cons_succ]))); (refine' head_val ?dw195 ?de195 ?dr195 ?dh195; (case' dw195 => rfl); (case' de195 => (first | exact fun _ _ _ => trivial | (intro t ht w; cases ht; simp [upE]))); (case' dr195 => (intro w' hw' _; go_simp; with_reducible rfl)); (case' dh195 => (try simp only [Act.put, List.setIfInBounds_toArray, List.set_cons_zero, List.set_cons_succ]))); (refine' head_val ?dw196 ?de196 ?dr196 ?dh196; (case' dw196 => rfl); (case' de196 => (first | exact fun _ _ _ => trivial | (intro t ht w; cases ht; simp [upE]))); (case' dr196 => (intro w' hw' _; go_simp; with_reducible rfl)); (case' dh196 => (try simp only [Act.put, List.setIfInBounds_toArray, List.set_cons_zero, List.set_cons_succ]))); (refine' head_val ?dw197 ?de197 ?dr197 ?dh197; (case' dw197 => rfl); (case' de197 => (first | exact fun _ _ _ => trivial | (intro t ht w; cases ht; simp [upE]))); (case' dr197 => (intro w' hw' _; go_simp; with_reducible rfl)); (case' dh197 => (try simp only [Act.put, List.setIfInBounds_toArray, List.set_cons_zero, List.set_cons_succ])))
            (refine' head_loadAt (x := _) rfl ?_ rfl rfl (fun j v hv => grow_cell (HCx.out j v hv) HG.out) (Hx32.out) ?_; (first | exact fun _ _ _ => trivial | (intro t ht w; cases ht; simp [upE])); try simp only [Act.put, List.setIfInBounds_toArray, List.set_cons_zero, List.set_cons_succ])
            (refine' head_val ?dw198 ?de198 ?dr198 ?dh198; (case' dw198 => rfl); (case' de198 => (first | exact fun _ _ _ => trivial | (intro t ht w; cases ht; simp [upE]))); (case' dr198 => (intro w' hw' _; go_simp; with_reducible rfl)); (case' dh198 => (try simp only [Act.put, List.setIfInBounds_toArray, List.set_cons_zero, List.set_cons_succ]))); (refine' head_val ?dw199 ?de199 ?dr199 ?dh199; (case' dw199 => rfl); (case' de199 => (first | exact fun _ _ _ => trivial | (intro t ht w; cases ht; simp [upE]))); (case' dr199 => (intro w' hw' _; go_simp; with_reducible rfl)); (case' dh199 => (try simp only [Act.put, List.setIfInBounds_toArray, List.set_cons_zero, List.set_cons_succ])))
            (refine' head_loadAt (x := _) rfl ?_ rfl rfl (fun j v hv => grow_cell (HCy.out j v hv) HG.out) (Hy32.out) ?_; (first | exact fun _ _ _ => trivial | (intro t ht w; cases ht; simp [upE])); try simp only [Act.put, List.setIfInBounds_toArray, List.set_cons_zero, List.set_cons_succ])
            (refine' head_call ?cw200 ?ce200 ?cr200 ?cc200 ?ch200; (case' cw200 => rfl); (case' ce200 => (first | exact fun _ _ _ => trivial | (intro t ht w; cases ht; simp [upE]))); (case' cr200 => (intro w'; go_simp; first | exact ⟨rfl, rfl⟩ | with_reducible rfl)); (case' cc200 => (intro w' hw' _; exact idLess x y Hx32.out Hy32.out w')); (case' ch200 => (try simp only [Act.put, List.setIfInBounds_toArray, List.set_cons_zero, List.set_cons_succ])))
            (refine' head_val ?dw201 ?de201 ?dr201 ?dh201; (case' dw201 => rfl); (case' de201 => (first | exact fun _ _ _ => trivial | (intro t ht w; cases ht; simp [upE]))); (case' dr201 => (intro w' hw' _; go_simp; with_reducible rfl)); (case' dh201 => (try simp only [Act.put, List.setIfInBounds_toArray, List.set_cons_zero, List.set_cons_succ]))); (refine' head_val ?dw202 ?de202 ?dr202 ?dh202; (case' dw202 => rfl); (case' de202 => (first | exact fun _ _ _ => trivial | (intro t ht w; cases ht; simp [upE]))); (case' dr202 => (intro w' hw' _; go_simp; with_reducible rfl)); (case' dh202 => (try simp only [Act.put, List.setIfInBounds_toArray, List.set_cons_zero, List.set_cons_succ]))); (refine' head_val ?dw203 ?de203 ?dr203 ?dh203; (case' dw203 => rfl); (case' de203 => (first | exact fun _ _ _ => trivial | (intro t ht w; cases ht; simp [upE]))); (case' dr203 => (intro w' hw' _; go_simp; with_reducible rfl)); (case' dh203 => (try simp only [Act.put, List.setIfInBounds_toArray, List.set_cons_zero, List.set_cons_succ]))); (refine' head_val ?dw204 ?de204 ?dr204 ?dh204; (case' dw204 => rfl); (case' de204 => (first | exact fun _ _ _ => trivial | (intro t ht w; cases ht; simp [upE]))); (case' dr204 => (intro w' hw' _; go_simp; with_reducible rfl)); (case' dh204 => (try simp only [Act.put, List.setIfInBounds_toArray, List.set_cons_zero, List.set_cons_succ])))
            clear hyx hxy
            refine head_nil ?_
            intro w4 hb _
            refine wpList_nil ?_
            replace HO := hid (HO.out.grow hb)
            replace HG := hid (Grow.trans HG.out hb)
            clear hb
            go_wp2_with (refine op_alloc rfl rfl ?_)
            intro g10 w5 hgl _ hb hr
            have HNE := hid (own_ne HO.out hgl)
            have HGL := hid (Nat.le_trans HG.out.size hgl)
            replace HO := hid (HO.out.grow hb)
            replace HG := hid (Grow.trans HG.out hb)
            have HR := hid hr
            clear hgl hb hr
            try simp only [Act.put, List.setIfInBounds_toArray, List.set_cons_zero, List.set_cons_succ]
            go_wp2_with fail
            refine wp_region_pick [0, 1, 3, 4] [2, 5, 6] rfl (by kernel_rfl) rfl (by kernel_rfl) ?_
            (refine' pick_val (by rfl) ?pw205 ?pr205 ?pq205 ?ph205; (case' pw205 => rfl); (case' pq205 => (exact fun _ _ _ h => h)); (case' pr205 => (intro w'; go_simp; with_reducible rfl)); (case' ph205 => (try simp only [List.getElem_toArray, List.getElem_cons_zero, List.getElem_cons_succ, Act.put, List.setIfInBounds_toArray, List.set_cons_zero, List.set_cons_succ]))); (refine' pick_val (by rfl) ?pw206 ?pr206 ?pq206 ?ph206; (case' pw206 => rfl); (case' pq206 => (exact fun _ _ _ h => h)); (case' pr206 => (intro w'; go_simp; with_reducible rfl)); (case' ph206 => (try simp only [List.getElem_toArray, List.getElem_cons_zero, List.getElem_cons_succ, Act.put, List.setIfInBounds_toArray, List.set_cons_zero, List.set_cons_succ]))); (refine' pick_val (by rfl) ?pw207 ?pr207 ?pq207 ?ph207; (case' pw207 => rfl); (case' pq207 => (exact fun _ _ _ h => h)); (case' pr207 => (intro w'; go_simp; with_reducible rfl)); (case' ph207 => (try simp only [List.getElem_toArray, List.getElem_cons_zero, List.getElem_cons_succ, Act.put, List.setIfInBounds_toArray, List.set_cons_zero, List.set_cons_succ]))); (refine' pick_val (by rfl) ?pw208 ?pr208 ?pq208 ?ph208; (case' pw208 => rfl); (case' pq208 => (exact fun _ _ _ h => h)); (case' pr208 => (intro w'; go_simp; with_reducible rfl)); (case' ph208 => (try simp only [List.getElem_toArray, List.getElem_cons_zero, List.getElem_cons_succ, Act.put, List.setIfInBounds_toArray, List.set_cons_zero, List.set_cons_succ])))
            (refine pick_nil ?_; show wpList _ _ _ (_ :: _ :: _ :: []) _ _)
            have hb := grow_drawn w5
            generalize ({ w5 with drawn := w5.drawn + 1 } : World) = w6 at *
            replace HO := hid (HO.out.grow hb)
            replace HG := hid (Grow.trans HG.out hb)
            replace HR := hid (grow_block HR.out hb)
            clear hb
            go_wp2_with (first | (refine op_loadAt (l := y) rfl rfl rfl (fun j v hv => grow_cell (HCy.out j v hv) HG.out) Hy32.out ?_) | (refine op_storeId (l := y) rfl rfl rfl rfl rfl HR.out (by rfl) Hy32.out ?_))
            intro w7 hz hgz hbz
            replace HO := hid (own_store HO.out hgz HNE.out)
            replace HG := hid (hbz _ _ HG.out HGL.out)
            clear HR
            have HR := hid hz
            clear hz hgz hbz
            go_wp2_with fail
            refine wp_region_pick [0, 1, 3, 4] [2, 5, 6] rfl (by kernel_rfl) rfl (by kernel_rfl) ?_
            (refine' pick_val (by rfl) ?pw209 ?pr209 ?pq209 ?ph209; (case' pw209 => rfl); (case' pq209 => (exact fun _ _ _ h => h)); (case' pr209 => (intro w'; go_simp; with_reducible rfl)); (case' ph209 => (try simp only [List.getElem_toArray, List.getElem_cons_zero, List.getElem_cons_succ, Act.put, List.setIfInBounds_toArray, List.set_cons_zero, List.set_cons_succ]))); (refine' pick_val (by rfl) ?pw210 ?pr210 ?pq210 ?ph210; (case' pw210 => rfl); (case' pq210 => (exact fun _ _ _ h => h)); (case' pr210 => (intro w'; go_simp; with_reducible rfl)); (case' ph210 => (try simp only [List.getElem_toArray, List.getElem_cons_zero, List.getElem_cons_succ, Act.put, List.setIfInBounds_toArray, List.set_cons_zero, List.set_cons_succ]))); (refine' pick_val (by rfl) ?pw211 ?pr211 ?pq211 ?ph211; (case' pw211 => rfl); (case' pq211 => (exact fun _ _ _ h => h)); (case' pr211 => (intro w'; go_simp; with_reducible rfl)); (case' ph211 => (try simp only [List.getElem_toArray, List.getElem_cons_zero, List.getElem_cons_succ, Act.put, List.setIfInBounds_toArray, List.set_cons_zero, List.set_cons_succ]))); (refine' pick_val (by rfl) ?pw212 ?pr212 ?pq212 ?ph212; (case' pw212 => rfl); (case' pq212 => (exact fun _ _ _ h => h)); (case' pr212 => (intro w'; go_simp; with_reducible rfl)); (case' ph212 => (try simp only [List.getElem_toArray, List.getElem_cons_zero, List.getElem_cons_succ, Act.put, List.setIfInBounds_toArray, List.set_cons_zero, List.set_cons_succ])))
            (refine pick_nil ?_; show wpList _ _ _ (_ :: _ :: _ :: []) _ _)
            have hb := grow_drawn w7
            generalize ({ w7 with drawn := w7.drawn + 1 } : World) = w8 at *
            replace HO := hid (HO.out.grow hb)
            replace HG := hid (Grow.trans HG.out hb)
            replace HR := hid (grow_block HR.out hb)
            clear hb
            go_wp2_with (first | (refine op_loadAt (l := x) rfl rfl rfl (fun j v hv => grow_cell (HCx.out j v hv) HG.out) Hx32.out ?_) | (refine op_storeId (l := x) rfl rfl rfl rfl rfl HR.out Hy32.out Hx32.out ?_))
            intro w9 hz hgz hbz
            replace HO := hid (own_store HO.out hgz HNE.out)
            replace HG := hid (hbz _ _ HG.out HGL.out)
            clear HR
            have HR := hid hz
            clear hz hgz hbz
            go_wp2_with (refine op_callFn (f := f) (cap := #[]) (u1 := .bool true) (u2 := .bool true) (v := .bool (cnt true true)) rfl rfl rfl rfl rfl HE.out (HF.out true true _) ?_)
            intro w10 hb
            replace HO := hid (HO.out.grow hb)
            replace HG := hid (Grow.trans HG.out hb)
            replace HR := hid (grow_block HR.out hb)
            clear hb
            have HN2 := hid (show a.length + b.length ≤ m by have := HN.out; simp at this ⊢; omega)
            cases hcnt : cnt true true with
            | true =>
              have HCNT := hid hcnt
              clear hcnt
              have HM2 := hid (show (o ++ [x]) ++ mergeN cnt m a b = mergeN cnt (xs.length + ys.length) xs ys by rw [← HM.out, mergeN, if_neg (by rw [HYX.out]; simp), if_neg (by rw [HXY.out]; simp), HCNT.out]; simp)
              have HMX2 := hid (show (o ++ [x]).length + (a.length + b.length) ≤ 1000000 by have := HMX.out; simp at this ⊢; omega)
              have hol : o.length ≤ 1000000 := by have := HMX.out; omega
              go_wp2_with (first | (refine op_loadId rfl rfl rfl HR.out Hx32.out ?_) | (refine op_appIds1 (w0 := w) (l1 := x) rfl rfl rfl rfl rfl rfl (fun _ => rfl) (fun _ => rfl) Hx32.out HO.out HG.out HG.out.size (by omega) ?_))
              intro u10 v10 w11 ho hb hs
              clear HO HG
              have HO := hid ho
              have HG := hid hb
              clear ho hb hs hol
              go_wp2
              go_roundg (m + 1)
              case rel => exact ⟨m, a, b, some (tailA ad ca'), some (tailA bd cb'), ca' - 1, cb' - 1, o ++ [x], rfl, HN2, by first | rfl | simp, by first | rfl | simp, HM2, HXt, HYt, H1t, H2t, HC1t, HC2t, HMX2, HO, HG⟩
              case measure => omega
            | false =>
              have HCNT := hid hcnt
              clear hcnt
              have HM2 := hid (show o ++ mergeN cnt m a b = mergeN cnt (xs.length + ys.length) xs ys by rw [← HM.out, mergeN, if_neg (by rw [HYX.out]; simp), if_neg (by rw [HXY.out]; simp), HCNT.out]; simp)
              have HMX2 := hid (show o.length + (a.length + b.length) ≤ 1000000 by have := HMX.out; simp at this ⊢; omega)
              go_wp2
              go_roundg (m + 1)
              case rel => exact ⟨m, a, b, some (tailA ad ca'), some (tailA bd cb'), ca' - 1, cb' - 1, o, rfl, HN2, by first | rfl | simp, by first | rfl | simp, HM2, HXt, HYt, H1t, H2t, HC1t, HC2t, HMX2, HO, HG⟩
              case measure => omega
end Go.Proofs.Ytkibibgbmkejjaa
