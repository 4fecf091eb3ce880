/- quitclaimref12.Table: contract. -/
import Derived.Test.YtkbapegohodcgaaQDifL
import Derived.Test.YtkbapegohodcgaaQDifJ
set_option linter.unusedSimpArgs false
set_option linter.unusedVariables false
namespace Go.Proofs.Ytkbapegohodcgaa
open Go.RowKit
open Go.Qk hiding rotr b4
set_option maxHeartbeats 4000000
set_option maxRecDepth 100000
structure RTab (w : World) (B : Nat) (v : Value) (r : Nat → Nat) (n m : Nat) (V : Nat → Nat → Nat) : Prop where
  own : w.ownsRow B 73 1 v n ((List.range n).map (fun a => ptrRow (r a) m))
  row : ∀ a, a < n → w.heap[r a]? = some (.cells (rowV (V a) m).toArray 3 (0, 0))
theorem does_own1 {P : Program} {T e : TypeId} {o : Oper} {a : Act} {w : World} {y : Operand} {u z : Value} {bytes : Nat} (ho : o.op = .buildSlice T 1 #[(0, y)]) (hy : a.eval y = u) (hu : u.cells = #[u])
    (ht : P.underlying T = some (.slice e)) (hi : (P.info? e).map (fun i => (i.zero, i.size, i.bytes)) = some (some z, 1, bytes)) (hz : z.cells.size = 1) :
    Does P o a w (fun v w' => w'.ownsRow w.heap.size e 1 v 1 [u] ∧ Grow w w') :=
  (does_build1 (cs := [u]) (size := 1) ho hy hu rfl ht hi hz (by omega) (by omega)).mono fun v w' ⟨h1, h2⟩ => by
    subst h1
    subst h2
    exact ⟨World.ownsRow_lit w [u].toArray 1 (Nat.le_refl _) (by decide) (by simp), grow_alloc _ _⟩
theorem run_strsFrom1 {ad : Addr} {n c : Nat} (hc : n + 1 ≤ c) : ∃ A', (n ≠ 0 → A' = some (ad.add 1)) ∧ ∀ w, (Instr.sliceAt 22 (.slice (some ad) (n + 1) c) (some (.int .i64 1)) none none).run Try.prog w = .ok (.slice A' n (c - 1)) w := by
  by_cases h : c = 1
  · subst h
    obtain rfl : n = 0 := by omega
    exact ⟨some ad, fun h => absurd rfl h, fun w => by go_simp⟩
  · refine ⟨some (ad.add 1), fun _ => rfl, fun w => ?_⟩
    have h1 : (n : Int) + 1 ≤ (c : Int) := by omega
    have h2 : (1 : Int) ≤ (n : Int) + 1 := by omega
    have h4 : ¬ c = 1 := h
    go_simp
theorem strRow_from1 {w : World} {A' : Option Addr} {ad : Addr} {x : ByteArray} {t : List ByteArray} (h : StrRow w (some ad) (x :: t)) (hA : t.length ≠ 0 → A' = some (ad.add 1)) : StrRow w A' t := by
  refine ⟨by have := h.1; simp at this; omega, fun hne => ⟨ad.add 1, hA (fun e => hne (List.eq_nil_of_length_eq_zero e)), fun i hi => ?_⟩⟩
  obtain ⟨ad', e, hc⟩ := h.2 (by simp)
  cases e
  rw [addr_add_add, Nat.add_comm]
  have := hc (i + 1) (by simp; omega)
  simpa using this
theorem refTable12 (B : Option Addr) (m d : Nat) (ys : List ByteArray) (hm : ys.length = m) (hm1 : m ≤ 1000) : ∀ (xs : List ByteArray) (A : Option Addr) (c : Nat) (w : World), StrRow w A xs → StrRow w B ys → xs.length ≤ 1000 → xs.length ≤ c →
    Calls Try.prog 55 #[.slice A xs.length c, .slice B m d] w fun e w' => ∃ v r, e = .returned v ∧ RTab w' w.heap.size v r (xs.length + 1) (m + 1) (Dif.kAt xs ys) ∧ Below w.heap.size w w'
  | [], A, c, w, _, _, _, _ => by
    have HM := hid hm
    have m0 : (0 : Int) ≤ (m : Int) := by omega
    have m9 : (m : Int) ≤ 1000 := by omega
    show Calls Try.prog 55 #[.slice A 0 c, .slice B m d] w _
    go_enter Try.func55, Try.ntmps55
    have HB := hid (grow_refl w)
    go_wp2_with (first | (refine op_makeN (n := m + 1) rfl rfl rfl rfl Try.underlying73 infoInt1 rfl rfl (by decide) (by omega) (by omega) ?_) | fail)
    intro g w1 hgl hgu hb hr
    have HG := hid (show w1.heap[g]? = some (.cells (rowV (Dif.kAt [] ys 0) (m + 1)).toArray 3 (0, 0)) by
      rw [hr]
      exact congrArg (fun x => some (Obj.cells x _ _)) (arr_rep (m + 1) _ _ (fun i hi => by rw [Dif.kAt_end_l _ _ _ _ (Nat.zero_le _)]; rfl)))
    have HB1 := hid hb
    clear hgl hgu hb hr
    go_wp2_with (first | (refine op_row1V (z := .slice none 0 0) rfl rfl rfl Try.underlying74 infoInts1 rfl rfl ?_) | fail)
    intro v w2 ho hb hlt
    have HO := hid (own_rebase (C := w.heap.size) ho (fun k hk => Nat.le_trans HB1.out.size (own_lt ho hk).1))
    have HG2 := hid (grow_block HG.out hb)
    have HB2 := hid (Grow.trans HB1.out hb)
    clear ho hb hlt
    go_wp2_with fail
    go_ret
    refine ⟨v, fun _ => g, rfl, ⟨HO.out, fun a ha => ?_⟩, HB2.out⟩
    obtain rfl : a = 0 := by simp at ha; omega
    exact HG2.out
  | x :: t, A, c, w, hx, hy, hx1, hc => by
    have HX1 := hid hx1
    have HM := hid hm
    have m0 : (0 : Int) ≤ (m : Int) := by omega
    have m9 : (m : Int) ≤ 1000 := by omega
    obtain ⟨ad, rfl, hcx⟩ := hx.at_ 0 (by simp)
    obtain ⟨A', hA', hsl⟩ := run_strsFrom1 (ad := ad) (n := t.length) (c := c) (by simpa using hc)
    have HX := hid (show StrRow w A' t from strRow_from1 hx hA')
    have HY := hid hy
    have HCX := hid (show w.cell? ad = some (.string x) from hcx)
    have hnc : t.length + 1 ≤ c := by simpa using hc
    have IH := hid (fun w1 (h : Grow w w1) => refTable12 B m d ys hm hm1 t A' (c - 1) w1 (HX.out.grow h) (HY.out.grow h) (by simp at hx1; omega) (by omega))
    have hn1 : (t.length : Int) ≤ 999 := by simp at hx1; omega
    have hn0 : (0 : Int) ≤ (t.length : Int) := by omega
    have hne0 : ((t.length : Int) + 1 == 0) = false := by simp; omega
    clear hx hy hx1 hc hcx hA' hm hnc
    show Calls Try.prog 55 #[.slice (some ad) (t.length + 1) c, .slice B m d] w fun e w' => ∃ v r, e = .returned v ∧ RTab w' w.heap.size v r (t.length + 1 + 1) (m + 1) (Dif.kAt (x :: t) ys) ∧ Below w.heap.size w w'
    obtain ⟨n, hn⟩ : ∃ n, n = t.length := ⟨_, rfl⟩
    rw [← hn] at hsl IH hn1 hn0 hne0 ⊢
    have HN := hid hn
    clear hn
    go_enter Try.func55, Try.ntmps55
    have HB := hid (grow_refl w)
    go_wp2_with fail
    refine (IH.out _ HB.out).mono ?_
    rintro _ w1 ⟨v1, r1, rfl, ht, hb⟩
    have HB1 := hid (Grow.trans HB.out hb)
    have HT := hid ht
    obtain ⟨A1, c1, rfl, hsl1⟩ := own_sl ht.own
    obtain ⟨ad1, rfl, hcl⟩ := hsl1 (by simp)
    have HC1 := hid (show w1.cell? ad1 = some (ptrRow (r1 0) (m + 1)) from hcl 0 _ (by simp))
    have HCL := hid hcl
    have HCX1 := hid (grow_cell HCX.out HB1.out)
    clear hb ht hsl1 hcl HB IH hsl
    go_wp2_with fail
    have HBW := hid (grow_refl w1)
    refine wp_region_chain (fun W => W.cell? ad = some (.string x) ∧ W.cell? ad1 = some (ptrRow (r1 0) (m + 1)) ∧ Grow w1 W) [(0, true), (1, true), (2, true), (3, true), (4, true), (5, true), (6, true), (7, false), (8, false), (9, true)] rfl (by kernel_rfl) rfl (by kernel_rfl) ?_
    intro wc1 hb
    replace HB1 := hid (Grow.trans HB1.out hb)
    replace HC1 := hid (grow_cell HC1.out hb)
    replace HCX1 := hid (grow_cell HCX1.out hb)
    replace HBW := hid (Grow.trans HBW.out hb)
    clear hb
    refine ⟨⟨HCX1.out, HC1.out, HBW.out⟩, ?_⟩
    (refine' ch_val ?po1 ?pw1 ?pr1 ?pq1 ?ph1; (case' po1 => exact rfl); (case' pw1 => rfl); (case' pq1 => (exact fun _ _ _ h => h)); (case' pr1 => (intro w' hw'; go_simp; with_reducible rfl)); (case' ph1 => (try simp only [List.getElem_toArray, List.getElem_cons_zero, List.getElem_cons_succ, Act.put, List.setIfInBounds_toArray, List.set_cons_zero, List.set_cons_succ]))); (refine' ch_val ?po2 ?pw2 ?pr2 ?pq2 ?ph2; (case' po2 => exact rfl); (case' pw2 => rfl); (case' pq2 => (exact fun _ _ _ h => h)); (case' pr2 => (intro w' hw'; go_simp; with_reducible rfl)); (case' ph2 => (try simp only [List.getElem_toArray, List.getElem_cons_zero, List.getElem_cons_succ, Act.put, List.setIfInBounds_toArray, List.set_cons_zero, List.set_cons_succ])))
    (refine' ch_val (v := (.string x)) ?po3 ?pw3 ?pr3 ?pq3 ?ph3; (case' po3 => exact rfl); (case' pw3 => rfl); (case' pq3 => (exact fun _ _ _ h => h)); (case' pr3 => (intro w' hw'; exact run_opLoad1 rfl rfl hw'.1 Try.underlying9 rfl)); (case' ph3 => (try simp only [List.getElem_toArray, List.getElem_cons_zero, List.getElem_cons_succ, Act.put, List.setIfInBounds_toArray, List.set_cons_zero, List.set_cons_succ])))
    (refine' ch_val ?po4 ?pw4 ?pr4 ?pq4 ?ph4; (case' po4 => exact rfl); (case' pw4 => rfl); (case' pq4 => (exact fun _ _ _ h => h)); (case' pr4 => (intro w' hw'; go_simp; with_reducible rfl)); (case' ph4 => (try simp only [List.getElem_toArray, List.getElem_cons_zero, List.getElem_cons_succ, Act.put, List.setIfInBounds_toArray, List.set_cons_zero, List.set_cons_succ]))); (refine' ch_val ?po5 ?pw5 ?pr5 ?pq5 ?ph5; (case' po5 => exact rfl); (case' pw5 => rfl); (case' pq5 => (exact fun _ _ _ h => h)); (case' pr5 => (intro w' hw'; go_simp; with_reducible rfl)); (case' ph5 => (try simp only [List.getElem_toArray, List.getElem_cons_zero, List.getElem_cons_succ, Act.put, List.setIfInBounds_toArray, List.set_cons_zero, List.set_cons_succ])))
    (refine' ch_val (v := (ptrRow (r1 0) (m + 1))) ?po6 ?pw6 ?pr6 ?pq6 ?ph6; (case' po6 => exact rfl); (case' pw6 => rfl); (case' pq6 => (exact fun _ _ _ h => h)); (case' pr6 => (intro w' hw'; exact run_opLoad1 rfl rfl hw'.2.1 Try.underlying73 rfl)); (case' ph6 => (try simp only [List.getElem_toArray, List.getElem_cons_zero, List.getElem_cons_succ, Act.put, List.setIfInBounds_toArray, List.set_cons_zero, List.set_cons_succ])))
    (refine' ch_val ?po7 ?pw7 ?pr7 ?pq7 ?ph7; (case' po7 => exact rfl); (case' pw7 => rfl); (case' pq7 => (exact fun _ _ _ h => h)); (case' pr7 => (intro w' hw'; go_simp; with_reducible rfl)); (case' ph7 => (try simp only [List.getElem_toArray, List.getElem_cons_zero, List.getElem_cons_succ, Act.put, List.setIfInBounds_toArray, List.set_cons_zero, List.set_cons_succ])))
    refine ch_call rfl rfl (by first | (go_simp; done) | (go_simp; rfl)) (refRow12 x (r1 0) B m d t ys _ (HY.out.grow HB1.out) HM.out (grow_block (HT.out.row 0 (by omega)) HBW.out) (by have := HX1.out; simp at this; omega) hm1) ?_
    rintro _ w2 ⟨g, rfl, hg, hgl, hb⟩
    have HG := hid hg
    replace HB1 := hid (Grow.trans HB1.out hb)
    replace HC1 := hid (grow_cell HC1.out hb)
    replace HCX1 := hid (grow_cell HCX1.out hb)
    replace HBW := hid (Grow.trans HBW.out hb)
    clear hb
    clear hg hgl
    refine ⟨_, rfl, ⟨HCX1.out, HC1.out, HBW.out⟩, ?_⟩
    try simp only [List.getElem_toArray, List.getElem_cons_zero, List.getElem_cons_succ, Act.put, List.setIfInBounds_toArray, List.set_cons_zero, List.set_cons_succ]
    refine ch_does rfl rfl (does_own1 (z := .slice none 0 0) (u := ptrRow g (m + 1)) rfl rfl rfl Try.underlying74 infoInts1 rfl) ?_
    rintro v6 w3 ⟨ho, hb⟩
    have HO := hid (own_rebase (C := w.heap.size) ho (fun k hk => Nat.le_trans HB1.out.size (own_lt ho hk).1))
    have HG3 := hid (grow_block HG.out hb)
    replace HB1 := hid (Grow.trans HB1.out hb)
    replace HC1 := hid (grow_cell HC1.out hb)
    replace HCX1 := hid (grow_cell HCX1.out hb)
    replace HBW := hid (Grow.trans HBW.out hb)
    clear hb
    clear ho
    refine ⟨⟨HCX1.out, HC1.out, HBW.out⟩, ?_⟩
    try simp only [List.getElem_toArray, List.getElem_cons_zero, List.getElem_cons_succ, Act.put, List.setIfInBounds_toArray, List.set_cons_zero, List.set_cons_succ]
    (refine' ch_val ?po8 ?pw8 ?pr8 ?pq8 ?ph8; (case' po8 => exact rfl); (case' pw8 => rfl); (case' pq8 => (exact fun _ _ _ h => h)); (case' pr8 => (intro w' hw'; go_simp; with_reducible rfl)); (case' ph8 => (try simp only [List.getElem_toArray, List.getElem_cons_zero, List.getElem_cons_succ, Act.put, List.setIfInBounds_toArray, List.set_cons_zero, List.set_cons_succ])))
    refine ch_nil ?_
    have HT3 := hid (show RTab w3 w.heap.size (.slice (some ad1) (n + 1) c1) r1 (n + 1) (m + 1) (Dif.kAt t ys) from ⟨own_rebase (own_grow HT.out.own HBW.out) (fun k hk => Nat.le_trans (by first | exact HBS.out | exact Nat.le_refl _) (own_lt HT.out.own hk).1), fun a ha => grow_block (HT.out.row a ha) HBW.out⟩)
    have HS3 := hid (show SlCells w3 (some ad1) ((List.range (n + 1)).map (fun a => ptrRow (r1 a) (m + 1))) from fun _ => ⟨ad1, rfl, fun j u hj => grow_cell (HCL.out j u hj) HBW.out⟩)
    go_wp2_with (first | (refine op_appOwn (n := 1) (m := n + 1) (v := v6) (B := w.heap.size) (z := .slice none 0 0) rfl rfl Try.underlying74 infoInts1 rfl (by decide) rfl rfl (by simp) HS3.out (fun h => by cases h) (by intro u hu; obtain ⟨a, _, rfl⟩ := List.mem_map.1 hu; rfl) HO.out HB1.out.size (by omega) (by omega) ?_) | fail)
    intro v7 w7 ho hg hm
    have HB7 := hid (show Grow w w7 from Below.trans (show Below w.heap.size w _ from HB1.out) (below_own HO.out hg HB1.out.size))
    have HF := hid (fun (k : Nat) (cs : Array Value) (hk : w3.heap[k]? = some (Obj.cells cs 3 (0, 0))) => blk_other' (h := k) hg hk (own_ne_blk HO.out hk (by decide)))
    have HO7 := hid ho
    clear ho hg hm
    go_wp2_with fail
    go_ret
    refine ⟨v7, fun a => if a = 0 then g else r1 (a - 1), rfl, ⟨?_, fun a ha => ?_⟩, HB7.out⟩
    · have h := HO7.out
      have e : [ptrRow g (m + 1)] ++ (List.range (n + 1)).map (fun a => ptrRow (r1 a) (m + 1)) = (List.range (n + 1 + 1)).map (fun a => ptrRow (if a = 0 then g else r1 (a - 1)) (m + 1)) := by
        rw [List.range_succ_eq_map (n := n + 1), List.map_cons, List.map_map]
        rfl
      have e2 : ptrRow g (m + 1) :: ((List.range n).map (fun a => ptrRow (r1 a) (m + 1)) ++ [ptrRow (r1 n) (m + 1)]) = (List.range (n + 1 + 1)).map (fun a => ptrRow (if a = 0 then g else r1 (a - 1)) (m + 1)) := by
        rw [← e, List.range_succ (n := n), List.map_append]
        rfl
      first
        | (rw [e, Nat.add_comm 1 (n + 1)] at h; exact h)
        | (rw [e2, Nat.add_comm 1 (n + 1)] at h; exact h)
    · cases a with
      | zero => exact HF.out g _ HG3.out
      | succ a => exact HF.out (r1 a) _ (HT3.out.row a (by omega))
end Go.Proofs.Ytkbapegohodcgaa
