/- witness.Alike, honest, hidden: contracts. -/
import Derived.Test.YtabkaflccaklhaaGreatQWitQ
import Derived.Test.YtabkaflccaklhaaGreatQIdx1
import Derived.Test.YtabkaflccaklhaaGreatQKit1
set_option linter.unusedSimpArgs false
set_option linter.unusedVariables false
namespace Go.Proofs.YtabkaflccaklhaaGreat
open Go.RowKit
open Go.Qk hiding rotr b4
set_option maxHeartbeats 1000000
set_option maxRecDepth 100000
theorem alikeB_succ (n : Nat) (a b : IdK) : alikeB (n + 1) a b = (alikeB n a b && decide (bitI a n = bitI b n)) := by
  unfold alikeB
  rw [List.range_succ, List.all_append]
  simp
theorem alikeB_stop {n k : Nat} {a b : IdK} (hk : k < n) (h : bitI a k ≠ bitI b k) : alikeB n a b = false := by
  unfold alikeB
  rw [List.all_eq_false]
  exact ⟨k, List.mem_range.2 hk, by simpa using h⟩
theorem wAlike (bits : Int) (M N : Nat) (hM : max bits 0 = (M : Int)) (hN : min (M : Int) 256 = (N : Int)) (a b : IdK) (ha : a.length = 32) (hb : b.length = 32) (w : World) :
    Calls Tryz.prog 40 #[.int .i64 bits, idV a, idV b] w fun e w' => e = .returned (.bool (alikeB N a b)) ∧ Below w.heap.size w w' := by
  have HA := hid ha
  have HB2 := hid hb
  have hn : N ≤ 256 := by omega
  clear ha hb
  go_enter Tryz.func40, Tryz.ntmps40
  have HB := hid (grow_refl w)
  apply wp_seq_k; intro _ _; apply wp_region_lit
  refine op_box (l := a) rfl rfl rfl ?_
  intro gx w1 hgl hgu hb hr
  have XL := hid (Nat.le_trans HB.out.size hgl)
  replace HB := hid (Grow.trans HB.out hb)
  have X := hid hr; have XU := hid hgu
  clear hr hgl hgu hb
  try simp only [Act.put, List.setIfInBounds_toArray, List.set_cons_zero, List.set_cons_succ]
  refine op_box (l := b) rfl rfl rfl ?_
  intro gy w2 hgl hgu hb hr
  have YL := hid (Nat.le_trans HB.out.size hgl)
  replace HB := hid (Grow.trans HB.out hb)
  replace X := hid (grow_block X.out hb)
  have Y := hid hr; have YU := hid hgu
  clear hr hgl hgu hb
  try simp only [Act.put, List.setIfInBounds_toArray, List.set_cons_zero, List.set_cons_succ]
  go_wp2_with fail
  go_loopg [11] (N + 1) (fun z i wr => ∃ k : Nat, k ≤ N ∧ z = N + 1 - k ∧ i = .int .i64 (k : Int) ∧ Hid (alikeB k a b = true) ∧ Hid (wr.heap[gx]? = some (.cells (u8s a).toArray 42 (0, 0))) ∧ Hid (wr.heap[gy]? = some (.cells (u8s b).toArray 42 (0, 0))) ∧ Hid (Grow w wr))
  case atStart => exact ⟨0, by omega, rfl, rfl, rfl, X, Y, HB⟩
  case round =>
    clear X Y HB
    obtain ⟨k, hk, hz, rfl, HE, X, Y, HB⟩ := hrel
    by_cases hlt : k < N
    · have k0 : (0 : Int) ≤ (k : Int) := by omega
      have k1 : (k : Int) < (N : Int) := by omega
      have HI1 := hid (fun w => idBit a HA.out k (by omega) w)
      have HI2 := hid (fun w => idBit b HB2.out k (by omega) w)
      have HSU := hid (alikeB_succ k a b)
      have HSTP := hid (fun h => alikeB_stop (a := a) (b := b) hlt h)
      generalize bitI a k = x at *
      generalize bitI b k = y at *
      go_wp2_with fail
      (refine' wp_region_head 7 0 [_, _, _, _, _, _, _] rfl (by kernel_rfl) (by kernel_rfl) ?hreg1; case' hreg1 => simp only [List.take_succ_cons, List.take_zero, List.zip_cons_cons, List.zip_nil_right, List.drop_succ_cons, List.drop_zero, List.drop_nil])
      (refine' head_loadId (x := _) rfl ?_ rfl rfl X.out (HA.out) ?_; (first | exact fun _ _ _ => trivial | (intro t ht w; cases ht; simp [upE])); try simp only [Act.put, List.setIfInBounds_toArray, List.set_cons_zero, List.set_cons_succ])
      (refine' head_val ?dw2 ?de2 ?dr2 ?dh2; (case' dw2 => rfl); (case' de2 => (first | exact fun _ _ _ => trivial | (intro t ht w; cases ht; simp [upE]))); (case' dr2 => (intro w' hw' _; go_simp; with_reducible rfl)); (case' dh2 => (try simp only [Act.put, List.setIfInBounds_toArray, List.set_cons_zero, List.set_cons_succ])))
      (refine' head_call ?cw3 ?ce3 ?cr3 ?cc3 ?ch3; (case' cw3 => rfl); (case' ce3 => (first | exact fun _ _ _ => trivial | (intro t ht w; cases ht; simp [upE]))); (case' cr3 => (intro w'; go_simp; first | exact ⟨rfl, rfl⟩ | with_reducible rfl)); (case' cc3 => (intro w' hw' _; exact HI1.out w')); (case' ch3 => (try simp only [Act.put, List.setIfInBounds_toArray, List.set_cons_zero, List.set_cons_succ])))
      (refine' head_loadId (x := _) rfl ?_ rfl rfl Y.out (HB2.out) ?_; (first | exact fun _ _ _ => trivial | (intro t ht w; cases ht; simp [upE])); try simp only [Act.put, List.setIfInBounds_toArray, List.set_cons_zero, List.set_cons_succ])
      (refine' head_val ?dw4 ?de4 ?dr4 ?dh4; (case' dw4 => rfl); (case' de4 => (first | exact fun _ _ _ => trivial | (intro t ht w; cases ht; simp [upE]))); (case' dr4 => (intro w' hw' _; go_simp; with_reducible rfl)); (case' dh4 => (try simp only [Act.put, List.setIfInBounds_toArray, List.set_cons_zero, List.set_cons_succ])))
      (refine' head_call ?cw5 ?ce5 ?cr5 ?cc5 ?ch5; (case' cw5 => rfl); (case' ce5 => (first | exact fun _ _ _ => trivial | (intro t ht w; cases ht; simp [upE]))); (case' cr5 => (intro w'; go_simp; first | exact ⟨rfl, rfl⟩ | with_reducible rfl)); (case' cc5 => (intro w' hw' _; exact HI2.out w')); (case' ch5 => (try simp only [Act.put, List.setIfInBounds_toArray, List.set_cons_zero, List.set_cons_succ])))
      (refine' head_val ?dw6 ?de6 ?dr6 ?dh6; (case' dw6 => rfl); (case' de6 => (first | exact fun _ _ _ => trivial | (intro t ht w; cases ht; simp [upE]))); (case' dr6 => (intro w' hw' _; go_simp; with_reducible rfl)); (case' dh6 => (try simp only [Act.put, List.setIfInBounds_toArray, List.set_cons_zero, List.set_cons_succ])))
      refine head_nil ?_
      intro w3 hb _
      replace HB := hid (Grow.trans HB.out hb)
      replace X := hid (grow_block X.out hb)
      replace Y := hid (grow_block Y.out hb)
      clear hb
      refine wpList_nil ?_
      by_cases he : x = y
      · have HE2 := hid (show alikeB (k + 1) a b = true by rw [HSU.out, HE.out]; simpa using he)
        have t1 : (x != y) = false := by simpa using he
        clear he
        go_wp2_with fail
        go_roundg (N + 1 - (k + 1))
        case rel => exact ⟨k + 1, by omega, rfl, by go_num, HE2, X, Y, HB⟩
        case measure => omega
      · have t1 : (x != y) = true := by simpa using he
        have HF := hid (HSTP.out he)
        clear he
        go_wp2_with fail
        go_ret
        exact ⟨by rw [HF.out]; rfl, HB.out⟩
    · obtain rfl : k = N := by omega
      go_wp2_with fail
      go_ret
      exact ⟨by rw [HE.out]; rfl, HB.out⟩
theorem wr_id_cells {w : World} {g : Nat} {x : WRow} {T : TypeId} {fr : Nat × Nat} (hg : w.heap[g]? = some (.cells (wrCells x).toArray T fr)) (j : Nat) (v : Value) (hv : (u8s x.2)[j]? = some v) : w.cell? ((⟨g, 1, none⟩ : Addr).add j) = some v := by
  have e : (⟨g, 1, none⟩ : Addr).add j = ⟨g, 1 + j, none⟩ := by unfold Addr.add; split <;> simp_all
  rw [e]
  refine blk_cell hg ?_
  rw [List.getElem?_toArray, Nat.add_comm]
  exact hv
section
variable {ops : Array Oper} {Q : Exit → Act → World → Prop} {rest : List Oper} {o : Oper} {a : Act} {w : World}
theorem op_callFn1 {x y1 : Operand} {ts : Array TypeId} {f : FuncId} {cap : Array Value} {v u1 : Value} (hgd : o.guard = none) (ho : o.op = .call { callee := .value x, args := #[y1], argTypes := ts }) (hx : a.eval x = .func (.func f) #[] cap)
    (h1 : a.eval y1 = u1) (hent : ∀ args w, (callFunc f args).run Tryz.prog w = .ok (.enter f args) w) {args : Array Value} (ha : #[u1] ++ cap = args) (hc : Calls Tryz.prog f args w fun e w' => e = .returned v ∧ Below w.heap.size w w')
    (h : ∀ w', Grow w w' → wpList Tryz.prog ops Q rest (a.put o.dst v) w') : wpList Tryz.prog ops Q (o :: rest) a w :=
  wpList_plain hgd fun K hK => by
    subst ha
    have hr : (execOp a.eval o).run Tryz.prog w = .ok (.enter f (#[u1] ++ cap)) w := by
      unfold execOp
      simp only [ho, resolve, hx, h1, List.map_toArray, List.map_cons, List.map_nil, Deferred.ofValue, invoke, Sem.run_bind, Sem.run_pure, Result.andThen_ok, Array.empty_append, hent]
    unfold Oper.wp
    rw [hr]
    exact Calls.mono hc fun e w'' ⟨he, hb⟩ => by rw [he]; exact hK _ _ (h _ hb)
end
theorem wHonest1 (x : WRow) (hx : x.2.length = 32) (leaf : Int) (b h : Nat) (hb : b ≤ 256) (sum : IdK) (hs : sum.length = 32) (g1 g2 g3 : Nat) (t1 t2 t3 : TypeId) (w : World) (h1 : w.heap[g1]? = some (.cells #[.int .i64 leaf] t1 (0, 0))) (h2 : w.heap[g2]? = some (.cells #[.int .i64 (b : Int), .int .i64 (h : Int)] t2 (0, 0))) (h3 : w.heap[g3]? = some (.cells (u8s sum).toArray t3 (0, 0))) :
    Calls Tryz.prog 110 #[wrV x, .pointer (some ⟨g1, 0, none⟩), .pointer (some ⟨g2, 0, none⟩), .pointer (some ⟨g3, 0, none⟩)] w fun e w' => e = .returned (.bool (decide (x.1 = leaf) && alikeB b x.2 sum)) ∧ Below w.heap.size w w' := by
  have HX := hid hx
  have HS := hid hs
  have B1 := hid h1
  have B2 := hid h2
  have B3 := hid h3
  have HAL := hid (fun w => wAlike (b : Int) b b (by omega) (by omega) x.2 sum hx hs w)
  clear hx hs h1 h2 h3
  by_cases he : x.1 = leaf
  · have tq : (x.1 == leaf) = true := by simpa using he
    have HR := hid (show (decide (x.1 = leaf) && alikeB b x.2 sum) = alikeB b x.2 sum by rw [decide_eq_true he, Bool.true_and])
    rw [HR.out]
    clear he HR
    generalize alikeB b x.2 sum = r at *
    go_enter Tryz.func110, Tryz.ntmps110
    have HB := hid (grow_refl w)
    apply wp_seq_k; intro _ _; apply wp_region_lit
    refine op_boxC (cs := (wrCells x).toArray) rfl rfl rfl rfl ?_
    intro gr w1 hgl hgu hb hr
    have RL := hid (Nat.le_trans HB.out.size hgl)
    replace HB := hid (Grow.trans HB.out hb)
    replace B1 := hid (grow_block B1.out hb)
    replace B2 := hid (grow_block B2.out hb)
    replace B3 := hid (grow_block B3.out hb)
    have R := hid hr; have RU := hid hgu
    clear hr hgl hgu hb
    try simp only [Act.put, List.setIfInBounds_toArray, List.set_cons_zero, List.set_cons_succ]
    go_wp2_with (first | (refine opG_load1 (i := 0) (v := .int .i64 x.1) rfl rfl rfl R.out rfl Tryz.underlying3 rfl ?_) | (refine opG_load1 (i := 0) (v := .int .i64 leaf) rfl rfl rfl B1.out rfl Tryz.underlying3 rfl ?_) | (refine opG_load1 (i := 0) (v := .int .i64 (b : Int)) rfl rfl rfl B2.out rfl Tryz.underlying3 rfl ?_) | (refine opG_loadAt (l := x.2) rfl rfl rfl (wr_id_cells R.out) HX.out ?_) | (refine opG_loadId rfl rfl rfl B3.out HS.out ?_) | fail)
    refine (HAL.out _).mono ?_
    rintro e w2 ⟨rfl, hb⟩
    replace HB := hid (Grow.trans HB.out hb)
    replace B1 := hid (grow_block B1.out hb)
    replace B2 := hid (grow_block B2.out hb)
    replace B3 := hid (grow_block B3.out hb)
    replace R := hid (grow_block R.out hb)
    clear hb
    go_wp2_with fail
    go_ret
    exact ⟨rfl, HB.out⟩
  · have tq : (x.1 == leaf) = false := by simpa using he
    have HR := hid (show (decide (x.1 = leaf) && alikeB b x.2 sum) = false by rw [decide_eq_false he, Bool.false_and])
    rw [HR.out]
    clear he HR
    go_enter Tryz.func110, Tryz.ntmps110
    have HB := hid (grow_refl w)
    apply wp_seq_k; intro _ _; apply wp_region_lit
    refine op_boxC (cs := (wrCells x).toArray) rfl rfl rfl rfl ?_
    intro gr w3 hgl hgu hb hr
    have RL := hid (Nat.le_trans HB.out.size hgl)
    replace HB := hid (Grow.trans HB.out hb)
    replace B1 := hid (grow_block B1.out hb)
    replace B2 := hid (grow_block B2.out hb)
    replace B3 := hid (grow_block B3.out hb)
    have R := hid hr; have RU := hid hgu
    clear hr hgl hgu hb
    try simp only [Act.put, List.setIfInBounds_toArray, List.set_cons_zero, List.set_cons_succ]
    go_wp2_with (first | (refine opG_load1 (i := 0) (v := .int .i64 x.1) rfl rfl rfl R.out rfl Tryz.underlying3 rfl ?_) | (refine opG_load1 (i := 0) (v := .int .i64 leaf) rfl rfl rfl B1.out rfl Tryz.underlying3 rfl ?_) | fail)
    go_ret
    exact ⟨rfl, HB.out⟩
theorem wHidden1 (x : WRow) (hx : x.2.length = 32) (leaf side : Int) (bit : Nat) (hb : bit < 256) (g1 g2 g3 : Nat) (t1 t2 t3 : TypeId) (w : World) (h1 : w.heap[g1]? = some (.cells #[.int .i64 leaf] t1 (0, 0))) (h2 : w.heap[g2]? = some (.cells #[.int .i64 (bit : Int)] t2 (0, 0))) (h3 : w.heap[g3]? = some (.cells #[.int .i64 side] t3 (0, 0))) :
    Calls Tryz.prog 111 #[wrV x, .pointer (some ⟨g1, 0, none⟩), .pointer (some ⟨g2, 0, none⟩), .pointer (some ⟨g3, 0, none⟩)] w fun e w' => e = .returned (.bool (decide (x.1 = leaf) && decide (bitI x.2 bit = side))) ∧ Below w.heap.size w w' := by
  have HX := hid hx
  have B1 := hid h1
  have B2 := hid h2
  have B3 := hid h3
  have HBT := hid (fun w => idBit x.2 hx bit hb w)
  clear hx h1 h2 h3
  by_cases he : x.1 = leaf
  · have tq : (x.1 == leaf) = true := by simpa using he
    have HR := hid (show (decide (x.1 = leaf) && decide (bitI x.2 bit = side)) = (bitI x.2 bit == side) by rw [decide_eq_true he, Bool.true_and]; rfl)
    rw [HR.out]
    clear he HR
    generalize bitI x.2 bit = q at *
    go_enter Tryz.func111, Tryz.ntmps111
    have HB := hid (grow_refl w)
    apply wp_seq_k; intro _ _; apply wp_region_lit
    refine op_boxC (cs := (wrCells x).toArray) rfl rfl rfl rfl ?_
    intro gr w1 hgl hgu hb hr
    have RL := hid (Nat.le_trans HB.out.size hgl)
    replace HB := hid (Grow.trans HB.out hb)
    replace B1 := hid (grow_block B1.out hb)
    replace B2 := hid (grow_block B2.out hb)
    replace B3 := hid (grow_block B3.out hb)
    have R := hid hr; have RU := hid hgu
    clear hr hgl hgu hb
    try simp only [Act.put, List.setIfInBounds_toArray, List.set_cons_zero, List.set_cons_succ]
    go_wp2_with fail
    (refine' wp_region_head 13 0 [_, _, _, _, _, _, _, _, _, _, _, _, _] rfl (by kernel_rfl) (by kernel_rfl) ?hreg7; case' hreg7 => simp only [List.take_succ_cons, List.take_zero, List.zip_cons_cons, List.zip_nil_right, List.drop_succ_cons, List.drop_zero, List.drop_nil])
    (refine' head_val ?dw8 ?de8 ?dr8 ?dh8; (case' dw8 => rfl); (case' de8 => (first | exact fun _ _ _ => trivial | (intro t ht w; cases ht; simp [upE]))); (case' dr8 => (intro w' hw' _; go_simp; with_reducible rfl)); (case' dh8 => (try simp only [Act.put, List.setIfInBounds_toArray, List.set_cons_zero, List.set_cons_succ])))
    (refine' head_load1 (i := 0) (v := (.int .i64 x.1)) rfl ?_ rfl rfl R.out rfl Tryz.underlying3 rfl ?_; (first | exact fun _ _ _ => trivial | (intro t ht w; cases ht; simp [upE])); try simp only [Act.put, List.setIfInBounds_toArray, List.set_cons_zero, List.set_cons_succ])
    (refine' head_load1 (i := 0) (v := (.int .i64 leaf)) rfl ?_ rfl rfl B1.out rfl Tryz.underlying3 rfl ?_; (first | exact fun _ _ _ => trivial | (intro t ht w; cases ht; simp [upE])); try simp only [Act.put, List.setIfInBounds_toArray, List.set_cons_zero, List.set_cons_succ])
    (refine' head_val ?dw9 ?de9 ?dr9 ?dh9; (case' dw9 => rfl); (case' de9 => (first | exact fun _ _ _ => trivial | (intro t ht w; cases ht; simp [upE]))); (case' dr9 => (intro w' hw' _; go_simp; with_reducible rfl)); (case' dh9 => (try simp only [Act.put, List.setIfInBounds_toArray, List.set_cons_zero, List.set_cons_succ]))); (refine' head_val ?dw10 ?de10 ?dr10 ?dh10; (case' dw10 => rfl); (case' de10 => (first | exact fun _ _ _ => trivial | (intro t ht w; cases ht; simp [upE]))); (case' dr10 => (intro w' hw' _; go_simp; with_reducible rfl)); (case' dh10 => (try simp only [Act.put, List.setIfInBounds_toArray, List.set_cons_zero, List.set_cons_succ]))); (refine' head_val ?dw11 ?de11 ?dr11 ?dh11; (case' dw11 => rfl); (case' de11 => (first | exact fun _ _ _ => trivial | (intro t ht w; cases ht; simp [upE]))); (case' dr11 => (intro w' hw' _; go_simp; with_reducible rfl)); (case' dh11 => (try simp only [Act.put, List.setIfInBounds_toArray, List.set_cons_zero, List.set_cons_succ])))
    (refine' head_loadAt (x := _) rfl ?_ rfl rfl (wr_id_cells R.out) (HX.out) ?_; (first | exact fun _ _ _ => trivial | (intro t ht w; cases ht; simp [upE])); try simp only [Act.put, List.setIfInBounds_toArray, List.set_cons_zero, List.set_cons_succ])
    (refine' head_load1 (i := 0) (v := (.int .i64 (bit : Int))) rfl ?_ rfl rfl B2.out rfl Tryz.underlying3 rfl ?_; (first | exact fun _ _ _ => trivial | (intro t ht w; cases ht; simp [upE])); try simp only [Act.put, List.setIfInBounds_toArray, List.set_cons_zero, List.set_cons_succ])
    (refine' head_call ?cw12 ?ce12 ?cr12 ?cc12 ?ch12; (case' cw12 => rfl); (case' ce12 => (first | exact fun _ _ _ => trivial | (intro t ht w; cases ht; simp [upE]))); (case' cr12 => (intro w'; go_simp; first | exact ⟨rfl, rfl⟩ | with_reducible rfl)); (case' cc12 => (intro w' hw' _; exact HBT.out w')); (case' ch12 => (try simp only [Act.put, List.setIfInBounds_toArray, List.set_cons_zero, List.set_cons_succ])))
    (refine' head_load1 (i := 0) (v := (.int .i64 side)) rfl ?_ rfl rfl B3.out rfl Tryz.underlying3 rfl ?_; (first | exact fun _ _ _ => trivial | (intro t ht w; cases ht; simp [upE])); try simp only [Act.put, List.setIfInBounds_toArray, List.set_cons_zero, List.set_cons_succ])
    (refine' head_val ?dw13 ?de13 ?dr13 ?dh13; (case' dw13 => rfl); (case' de13 => (first | exact fun _ _ _ => trivial | (intro t ht w; cases ht; simp [upE]))); (case' dr13 => (intro w' hw' _; go_simp; with_reducible rfl)); (case' dh13 => (try simp only [Act.put, List.setIfInBounds_toArray, List.set_cons_zero, List.set_cons_succ]))); (refine' head_val ?dw14 ?de14 ?dr14 ?dh14; (case' dw14 => rfl); (case' de14 => (first | exact fun _ _ _ => trivial | (intro t ht w; cases ht; simp [upE]))); (case' dr14 => (intro w' hw' _; go_simp; with_reducible rfl)); (case' dh14 => (try simp only [Act.put, List.setIfInBounds_toArray, List.set_cons_zero, List.set_cons_succ]))); (refine' head_val ?dw15 ?de15 ?dr15 ?dh15; (case' dw15 => rfl); (case' de15 => (first | exact fun _ _ _ => trivial | (intro t ht w; cases ht; simp [upE]))); (case' dr15 => (intro w' hw' _; go_simp; with_reducible rfl)); (case' dh15 => (try simp only [Act.put, List.setIfInBounds_toArray, List.set_cons_zero, List.set_cons_succ])))
    refine head_nil ?_
    intro w2 hb _
    replace HB := hid (Grow.trans HB.out hb)
    replace B1 := hid (grow_block B1.out hb)
    replace B2 := hid (grow_block B2.out hb)
    replace B3 := hid (grow_block B3.out hb)
    replace R := hid (grow_block R.out hb)
    clear hb
    refine wpList_nil ?_
    go_wp2_with fail
    go_ret
    exact ⟨rfl, HB.out⟩
  · have tq : (x.1 == leaf) = false := by simpa using he
    have HR := hid (show (decide (x.1 = leaf) && decide (bitI x.2 bit = side)) = false by rw [decide_eq_false he, Bool.false_and])
    rw [HR.out]
    clear he HR
    go_enter Tryz.func111, Tryz.ntmps111
    have HB := hid (grow_refl w)
    apply wp_seq_k; intro _ _; apply wp_region_lit
    refine op_boxC (cs := (wrCells x).toArray) rfl rfl rfl rfl ?_
    intro gr w3 hgl hgu hb hr
    have RL := hid (Nat.le_trans HB.out.size hgl)
    replace HB := hid (Grow.trans HB.out hb)
    replace B1 := hid (grow_block B1.out hb)
    replace B2 := hid (grow_block B2.out hb)
    replace B3 := hid (grow_block B3.out hb)
    have R := hid hr; have RU := hid hgu
    clear hr hgl hgu hb
    try simp only [Act.put, List.setIfInBounds_toArray, List.set_cons_zero, List.set_cons_succ]
    go_wp2_with fail
    (refine' wp_region_head 13 0 [_, _, _, _, _, _, _, _, _, _, _, _, _] rfl (by kernel_rfl) (by kernel_rfl) ?hreg16; case' hreg16 => simp only [List.take_succ_cons, List.take_zero, List.zip_cons_cons, List.zip_nil_right, List.drop_succ_cons, List.drop_zero, List.drop_nil])
    (refine' head_val ?dw17 ?de17 ?dr17 ?dh17; (case' dw17 => rfl); (case' de17 => (first | exact fun _ _ _ => trivial | (intro t ht w; cases ht; simp [upE]))); (case' dr17 => (intro w' hw' _; go_simp; with_reducible rfl)); (case' dh17 => (try simp only [Act.put, List.setIfInBounds_toArray, List.set_cons_zero, List.set_cons_succ])))
    (refine' head_load1 (i := 0) (v := (.int .i64 x.1)) rfl ?_ rfl rfl R.out rfl Tryz.underlying3 rfl ?_; (first | exact fun _ _ _ => trivial | (intro t ht w; cases ht; simp [upE])); try simp only [Act.put, List.setIfInBounds_toArray, List.set_cons_zero, List.set_cons_succ])
    (refine' head_load1 (i := 0) (v := (.int .i64 leaf)) rfl ?_ rfl rfl B1.out rfl Tryz.underlying3 rfl ?_; (first | exact fun _ _ _ => trivial | (intro t ht w; cases ht; simp [upE])); try simp only [Act.put, List.setIfInBounds_toArray, List.set_cons_zero, List.set_cons_succ])
    (refine' head_val ?dw18 ?de18 ?dr18 ?dh18; (case' dw18 => rfl); (case' de18 => (first | exact fun _ _ _ => trivial | (intro t ht w; cases ht; simp [upE]))); (case' dr18 => (intro w' hw' _; go_simp; with_reducible rfl)); (case' dh18 => (try simp only [Act.put, List.setIfInBounds_toArray, List.set_cons_zero, List.set_cons_succ]))); (refine' head_val ?dw19 ?de19 ?dr19 ?dh19; (case' dw19 => rfl); (case' de19 => (first | exact fun _ _ _ => trivial | (intro t ht w; cases ht; simp [upE]))); (case' dr19 => (intro w' hw' _; go_simp; with_reducible rfl)); (case' dh19 => (try simp only [Act.put, List.setIfInBounds_toArray, List.set_cons_zero, List.set_cons_succ])))
    (refine' head_skip (V := fun _ _ => True) ?sw20 ?se20 ?sh20; (case' sw20 => rfl); (case' se20 => (first | exact fun _ _ _ => trivial | (intro t ht w; cases ht; simp [upE]))); (case' sh20 => (try simp only [Act.put, List.setIfInBounds_toArray, List.set_cons_zero, List.set_cons_succ]))); (refine' head_skip (V := fun _ _ => True) ?sw21 ?se21 ?sh21; (case' sw21 => rfl); (case' se21 => (first | exact fun _ _ _ => trivial | (intro t ht w; cases ht; simp [upE]))); (case' sh21 => (try simp only [Act.put, List.setIfInBounds_toArray, List.set_cons_zero, List.set_cons_succ]))); (refine' head_skip (V := fun _ _ => True) ?sw22 ?se22 ?sh22; (case' sw22 => rfl); (case' se22 => (first | exact fun _ _ _ => trivial | (intro t ht w; cases ht; simp [upE]))); (case' sh22 => (try simp only [Act.put, List.setIfInBounds_toArray, List.set_cons_zero, List.set_cons_succ]))); (refine' head_skip (V := fun _ _ => True) ?sw23 ?se23 ?sh23; (case' sw23 => rfl); (case' se23 => (first | exact fun _ _ _ => trivial | (intro t ht w; cases ht; simp [upE]))); (case' sh23 => (try simp only [Act.put, List.setIfInBounds_toArray, List.set_cons_zero, List.set_cons_succ]))); (refine' head_skip (V := fun _ _ => True) ?sw24 ?se24 ?sh24; (case' sw24 => rfl); (case' se24 => (first | exact fun _ _ _ => trivial | (intro t ht w; cases ht; simp [upE]))); (case' sh24 => (try simp only [Act.put, List.setIfInBounds_toArray, List.set_cons_zero, List.set_cons_succ]))); (refine' head_skip (V := fun _ _ => True) ?sw25 ?se25 ?sh25; (case' sw25 => rfl); (case' se25 => (first | exact fun _ _ _ => trivial | (intro t ht w; cases ht; simp [upE]))); (case' sh25 => (try simp only [Act.put, List.setIfInBounds_toArray, List.set_cons_zero, List.set_cons_succ])))
    (refine' head_val ?dw26 ?de26 ?dr26 ?dh26; (case' dw26 => rfl); (case' de26 => (first | exact fun _ _ _ => trivial | (intro t ht w; cases ht; simp [upE]))); (case' dr26 => (intro w' hw' _; go_simp; with_reducible rfl)); (case' dh26 => (try simp only [Act.put, List.setIfInBounds_toArray, List.set_cons_zero, List.set_cons_succ]))); (refine' head_val ?dw27 ?de27 ?dr27 ?dh27; (case' dw27 => rfl); (case' de27 => (first | exact fun _ _ _ => trivial | (intro t ht w; cases ht; simp [upE]))); (case' dr27 => (intro w' hw' _; go_simp; with_reducible rfl)); (case' dh27 => (try simp only [Act.put, List.setIfInBounds_toArray, List.set_cons_zero, List.set_cons_succ])))
    refine head_nil ?_
    intro w4 hb _
    replace HB := hid (Grow.trans HB.out hb)
    replace B1 := hid (grow_block B1.out hb)
    replace B2 := hid (grow_block B2.out hb)
    replace B3 := hid (grow_block B3.out hb)
    replace R := hid (grow_block R.out hb)
    clear hb
    refine wpList_nil ?_
    go_wp2_with fail
    go_ret
    exact ⟨rfl, HB.out⟩
theorem wIndexFunc (pred : WRow → Bool) (f : FuncId) (p1 p2 p3 : Value) (hent : ∀ args w, (callFunc f args).run Tryz.prog w = .ok (.enter f args) w) (A : Option Addr) (n c : Nat) (fs : List WRow) (w : World) (hx : WrRow w A fs) (hn : fs.length = n) (h32 : ∀ x ∈ fs, x.2.length = 32)
    (hf : ∀ x, x.2.length = 32 → ∀ w1, Grow w w1 → Calls Tryz.prog f #[wrV x, p1, p2, p3] w1 fun e w' => e = .returned (.bool (pred x)) ∧ Below w1.heap.size w1 w') :
    Calls Tryz.prog 145 #[.slice A n c, .func (.func f) #[] #[p1, p2, p3]] w fun e w' => ∃ i : Int, e = .returned (.int .i64 i) ∧ decide (0 ≤ i) = fs.any pred ∧ Below w.heap.size w w' := by
  have HX := hid hx
  have HN := hid hn
  have H32 := hid h32
  have HF := hid hf
  have HE := hid hent
  have n9 : n ≤ 9223372036854775807 := by have := hx.1; omega
  clear hx hn h32 hf hent
  go_enter Tryz.func145, Tryz.ntmps145
  have HB := hid (grow_refl w)
  go_wp2_with fail
  go_loopg [8] (n + 1) (fun z i wr => ∃ k : Nat, k ≤ n ∧ z = n + 1 - k ∧ i = .int .i64 (k : Int) ∧ Hid ((fs.take k).any pred = false) ∧ Hid (Grow w wr))
  case atStart => exact ⟨0, by omega, by omega, rfl, rfl, HB⟩
  case round =>
    clear HB
    obtain ⟨k, hk, hz, rfl, HA, HB⟩ := hrel
    have k0 : (0 : Int) ≤ (k : Int) := by omega
    by_cases hlt : k < n
    · have k1 : (k : Int) < (n : Int) := by omega
      have hkl : k < fs.length := by rw [HN.out]; exact hlt
      obtain ⟨ad, rfl, hc⟩ := (HX.out.grow HB.out).at_ k hkl
      have HC := hid hc
      have HM := hid (wr_mem hkl)
      have HX32 := hid (H32.out _ HM.out)
      have HTK := hid (show fs.take (k + 1) = fs.take k ++ [fs.getD k wr0] by rw [List.take_succ_eq_append_getElem hkl]; simp [hkl])
      clear hc
      generalize fs.getD k wr0 = x at *
      go_wp2_with (first | (refine wpList_load_agg rfl 116 _ rfl _ rfl (wrCells x) _ HC.out Tryz.underlying116 rfl (infoWRow HX32.out) ?_) | (refine op_callFn1 (f := f) (cap := #[p1, p2, p3]) (u1 := wrV x) (v := .bool (pred x)) rfl rfl rfl rfl HE.out (args := #[wrV x, p1, p2, p3]) (by simp) (HF.out x HX32.out _ HB.out) ?_) | fail)
      intro w2 hb
      have HB2 := hid (Grow.trans HB.out hb)
      clear hb HC HB
      cases hp : pred x with
      | true =>
        have HANY := hid (show fs.any pred = true from List.any_eq_true.2 ⟨x, HM.out, hp⟩)
        go_wp2_with fail
        go_ret
        exact ⟨_, rfl, by rw [HANY.out]; simp, HB2.out⟩
      | false =>
        have HA2 := hid (show (fs.take (k + 1)).any pred = false by rw [HTK.out, List.any_append, HA.out]; simp [hp])
        clear HA
        go_wp2_with fail
        go_roundg (n + 1 - (k + 1))
        case rel => exact ⟨k + 1, by omega, rfl, by go_num, HA2, HB2⟩
        case measure => omega
    · obtain rfl : k = n := by omega
      rw [List.take_of_length_le (by rw [HN.out]; omega)] at HA
      go_wp2_with fail
      go_ret
      exact ⟨_, rfl, by rw [HA.out]; rfl, HB.out⟩
theorem wContains (pred : WRow → Bool) (f : FuncId) (p1 p2 p3 : Value) (hent : ∀ args w, (callFunc f args).run Tryz.prog w = .ok (.enter f args) w) (A : Option Addr) (n c : Nat) (fs : List WRow) (w : World) (hx : WrRow w A fs) (hn : fs.length = n) (h32 : ∀ x ∈ fs, x.2.length = 32)
    (hf : ∀ x, x.2.length = 32 → ∀ w1, Grow w w1 → Calls Tryz.prog f #[wrV x, p1, p2, p3] w1 fun e w' => e = .returned (.bool (pred x)) ∧ Below w1.heap.size w1 w') :
    Calls Tryz.prog 109 #[.slice A n c, .func (.func f) #[] #[p1, p2, p3]] w fun e w' => e = .returned (.bool (fs.any pred)) ∧ Below w.heap.size w w' := by
  have HIF := hid (wIndexFunc pred f p1 p2 p3 hent A n c fs w hx hn h32 hf)
  clear hx hn h32 hf hent
  go_enter Tryz.func109, Tryz.ntmps109
  have HB := hid (grow_refl w)
  go_wp2_with fail
  refine HIF.out.mono ?_
  rintro e w2 ⟨i, rfl, hi, hb⟩
  have HI := hid hi
  have HB2 := hid hb
  clear hi hb
  go_wp2_with fail
  go_ret
  exact ⟨by rw [← HI.out]; rfl, HB2.out⟩
theorem wHonest (b h : Nat) (hb : b ≤ 256) (A : Option Addr) (n c : Nat) (fs : List WRow) (sum : IdK) (hs : sum.length = 32) (leaf : Int) (w : World) (hx : WrRow w A fs) (hn : fs.length = n) (h32 : ∀ x ∈ fs, x.2.length = 32) :
    Calls Tryz.prog 64 #[.agg #[.int .i64 (b : Int), .int .i64 (h : Int)], .slice A n c, idV sum, .int .i64 leaf] w fun e w' => e = .returned (.bool (honestW b fs sum leaf)) ∧ Below w.heap.size w w' := by
  have HX := hid hx
  have HN := hid hn
  have H32 := hid h32
  have HS := hid hs
  clear hx hn h32 hs
  go_enter Tryz.func64, Tryz.ntmps64
  have HB := hid (grow_refl w)
  apply wp_seq_k; intro _ _; apply wp_region_lit
  refine op_boxC (cs := #[.int .i64 (b : Int), .int .i64 (h : Int)]) rfl rfl rfl rfl ?_
  intro gp w1 hgl hgu hb hr
  have PL := hid (Nat.le_trans HB.out.size hgl)
  replace HB := hid (Grow.trans HB.out hb)
  have P := hid hr; have PU := hid hgu
  clear hr hgl hgu hb
  try simp only [Act.put, List.setIfInBounds_toArray, List.set_cons_zero, List.set_cons_succ]
  refine op_box (l := sum) rfl rfl rfl ?_
  intro gx w2 hgl hgu hb hr
  have XL := hid (Nat.le_trans HB.out.size hgl)
  replace HB := hid (Grow.trans HB.out hb)
  replace P := hid (grow_block P.out hb)
  have X := hid hr; have XU := hid hgu
  clear hr hgl hgu hb
  try simp only [Act.put, List.setIfInBounds_toArray, List.set_cons_zero, List.set_cons_succ]
  refine op_boxC (cs := #[.int .i64 leaf]) rfl rfl rfl rfl ?_
  intro gl w3 hgl hgu hb hr
  have LL := hid (Nat.le_trans HB.out.size hgl)
  replace HB := hid (Grow.trans HB.out hb)
  replace P := hid (grow_block P.out hb)
  replace X := hid (grow_block X.out hb)
  have L := hid hr; have LU := hid hgu
  clear hr hgl hgu hb
  try simp only [Act.put, List.setIfInBounds_toArray, List.set_cons_zero, List.set_cons_succ]
  go_wp2_with fail
  refine (wContains (fun x => decide (x.1 = leaf) && alikeB b x.2 sum) 110 (.pointer (some ⟨gl, 0, none⟩)) (.pointer (some ⟨gp, 0, none⟩)) (.pointer (some ⟨gx, 0, none⟩)) (enters_of Tryz.func110 (by kernel_rfl) rfl) A n c fs _ (HX.out.grow HB.out) HN.out H32.out (fun x hx w1 hg => wHonest1 x hx leaf b h hb sum HS.out gl gp gx _ _ _ w1 (grow_block L.out hg) (grow_block P.out hg) (grow_block X.out hg))).mono ?_
  rintro _ w4 ⟨rfl, hb⟩
  replace HB := hid (Grow.trans HB.out hb)
  replace P := hid (grow_block P.out hb)
  replace X := hid (grow_block X.out hb)
  replace L := hid (grow_block L.out hb)
  clear hb
  go_wp2_with fail
  go_ret
  exact ⟨rfl, HB.out⟩
theorem wHidden (A : Option Addr) (n c : Nat) (fs : List WRow) (leaf side : Int) (bit : Nat) (hb : bit < 256) (w : World) (hx : WrRow w A fs) (hn : fs.length = n) (h32 : ∀ x ∈ fs, x.2.length = 32) :
    Calls Tryz.prog 66 #[.slice A n c, .int .i64 leaf, .int .i64 (bit : Int), .int .i64 side] w fun e w' => e = .returned (.bool (!shownW fs leaf bit side)) ∧ Below w.heap.size w w' := by
  have HX := hid hx
  have HN := hid hn
  have H32 := hid h32
  clear hx hn h32
  go_enter Tryz.func66, Tryz.ntmps66
  have HB := hid (grow_refl w)
  apply wp_seq_k; intro _ _; apply wp_region_lit
  refine op_boxC (cs := #[.int .i64 leaf]) rfl rfl rfl rfl ?_
  intro gp w1 hgl hgu hb hr
  have PL := hid (Nat.le_trans HB.out.size hgl)
  replace HB := hid (Grow.trans HB.out hb)
  have P := hid hr; have PU := hid hgu
  clear hr hgl hgu hb
  try simp only [Act.put, List.setIfInBounds_toArray, List.set_cons_zero, List.set_cons_succ]
  refine op_boxC (cs := #[.int .i64 (bit : Int)]) rfl rfl rfl rfl ?_
  intro gx w2 hgl hgu hb hr
  have XL := hid (Nat.le_trans HB.out.size hgl)
  replace HB := hid (Grow.trans HB.out hb)
  replace P := hid (grow_block P.out hb)
  have X := hid hr; have XU := hid hgu
  clear hr hgl hgu hb
  try simp only [Act.put, List.setIfInBounds_toArray, List.set_cons_zero, List.set_cons_succ]
  refine op_boxC (cs := #[.int .i64 side]) rfl rfl rfl rfl ?_
  intro gl w3 hgl hgu hb hr
  have LL := hid (Nat.le_trans HB.out.size hgl)
  replace HB := hid (Grow.trans HB.out hb)
  replace P := hid (grow_block P.out hb)
  replace X := hid (grow_block X.out hb)
  have L := hid hr; have LU := hid hgu
  clear hr hgl hgu hb
  try simp only [Act.put, List.setIfInBounds_toArray, List.set_cons_zero, List.set_cons_succ]
  go_wp2_with fail
  refine (wContains (fun x => decide (x.1 = leaf) && decide (bitI x.2 bit = side)) 111 (.pointer (some ⟨gp, 0, none⟩)) (.pointer (some ⟨gx, 0, none⟩)) (.pointer (some ⟨gl, 0, none⟩)) (enters_of Tryz.func111 (by kernel_rfl) rfl) A n c fs _ (HX.out.grow HB.out) HN.out H32.out (fun x hx w1 hg => wHidden1 x hx leaf side bit hb gp gx gl _ _ _ w1 (grow_block P.out hg) (grow_block X.out hg) (grow_block L.out hg))).mono ?_
  rintro _ w4 ⟨rfl, hb⟩
  replace HB := hid (Grow.trans HB.out hb)
  replace P := hid (grow_block P.out hb)
  replace X := hid (grow_block X.out hb)
  replace L := hid (grow_block L.out hb)
  clear hb
  go_wp2_with fail
  go_ret
  exact ⟨rfl, HB.out⟩
end Go.Proofs.YtabkaflccaklhaaGreat
