/- merkle.Prove where the id is in the row; the chapter's example. -/
import Derived.Test.YtffgifegaagndaaQMer4
import Derived.Test.YtffgifegaagndaaQSig5
set_option linter.unusedSimpArgs false
set_option linter.unusedVariables false
namespace Go.Proofs.Ytffgifegaagndaa
open Go.RowKit
open Go.Qk hiding rotr b4
set_option maxHeartbeats 1000000
set_option maxRecDepth 100000
theorem infoPlaceZ : (Try.prog.info? 70).map (fun i => (i.zero, i.size, i.bytes)) = some (some (.agg (placeC (List.replicate 32 0) 0 (.slice none 0 0)).toArray), 34, 64) := by kernel_rfl
theorem infoProof : (Try.prog.info? 63).map (·.size) = some 2 := by kernel_rfl
section
variable {ops : Array Oper} {Q : Exit → Act → World → Prop} {rest : List Oper} {o : Oper} {a : Act} {w : World}
theorem op_row1Pl {x : Operand} {cs : List Value} (hgd : o.guard = none) (ho : o.op = .buildSlice 61 1 #[(0, x)]) (hx : a.eval x = .agg cs.toArray) (hl : cs.length = 34)
    (h : ∀ g W, w.heap.size ≤ g → g < W.heap.size → Grow w W → W.heap[g]? = some (.cells cs.toArray 70 (0, 0)) → wpList Try.prog ops Q rest (a.put o.dst (.slice (some ⟨g, 0, none⟩) 1 1)) W) : wpList Try.prog ops Q (o :: rest) a w := by
  have hr := run_buildSlice (P := Try.prog) w 61 70 34 1 64 _ Try.underlying61 infoPlaceZ (by simp [Value.cells, placeC, u8s_length]) (by omega) (by omega) (by omega) [.agg cs.toArray] [cs] (by simp [Value.cells]) (fun c hc => by rw [List.mem_singleton.1 hc]; exact hl) rfl
  have hp : #[(0, x)].map (fun (i, y) => (i, a.eval y)) = ((([Value.agg cs.toArray] : List Value).zipIdx 0).map Prod.swap).toArray := by simp [hx]
  have e : ([cs] : List (List Value)).flatten = cs := by simp
  rw [e] at hr
  refine wpList_val (v := .slice (some ⟨w.heap.size, 0, none⟩) 1 1) (w' := w.alloc (.cells cs.toArray 70)) hgd ?_ (h _ _ (Nat.le_refl _) (by simp) (grow_alloc _ _) (heap_alloc_new _ _))
  unfold execOp
  simp only [ho, hp, Sem.run_bind, Sem.run_pure, Result.andThen_ok, hr]
end
theorem ret_proof {fn : Func} {p u : Tmp} {tmps : Array Value} {w : World} {g : Nat} {cs : Array Value} {t : TypeId} {fr : Nat × Nat} (h : fn.results = #[.cell p 63, .tmp u]) (hp : tmps.getD p undef = .pointer (some ⟨g, 0, none⟩)) (hg : w.heap[g]? = some (.cells cs t fr)) (hl : cs.size = 2) :
    (results fn tmps).run Try.prog w = .ok (.tuple #[.agg cs, tmps.getD u undef]) w :=
  results_row_tmp h _ _ g _ _ fr _ hp hg Try.underlying63 rfl (by rw [infoProof, hl])
theorem mkProveIn (A : Option Addr) (n c p : Nat) (xs : List (List UInt8)) (a : List UInt8) (w : World) (hx : IdRow w A xs) (hn : xs.length = n) (hc : n ≤ c) (h32 : ∀ s ∈ xs, s.length = 32) (ha : a.length = 32) (hmax : n ≤ 1000000)
    (hr : risesB xs = true) (hp : bsN xs a = p) (hpn : p < n) (hpa : xs.getD p [] = a) :
    Calls Try.prog 49 #[.slice A n c, idV a] w fun e w' => ∃ gp WA m wc, e = .returned (.tuple #[.agg #[.int .i64 (n : Int), .slice (some ⟨gp, 0, none⟩) 1 1], .int .i64 0]) ∧ w.heap.size ≤ gp ∧ w'.heap[gp]? = some (.cells (placeC a p (.slice WA m wc)).toArray 70 (0, 0)) ∧
      OwnIds 23 w.heap.size w' (.slice WA m wc) (wayL xs p) ∧ (wayL xs p).length = m ∧ Below w.heap.size w w' := by
  have HX := hid hx
  have HA := hid ha
  have HRI := hid (fun w h => idRises A n c xs w h hn h32 hmax)
  rw [hr] at HRI
  have HIP := hid (fun w h => idPlace A n c xs a w h hn h32 ha hmax)
  rw [hp] at HIP
  have HPL := hid (fun w h => mkPlace A n c xs p w h hn hc h32 hmax hpn)
  rw [hpa] at HPL
  obtain ⟨ad, rfl, hd⟩ := hx.at_ p (by omega)
  rw [hpa] at hd
  have HD := hid hd
  have hq1 := id_eql_self a ha
  have hq2 := id_guard .eql a a
  have p0 : (0 : Int) ≤ (p : Int) := by omega
  have p1 : (p : Int) < (n : Int) := by omega
  have t1 : decide (p < n) = true := by simp; omega
  have HBN := hid (show ∀ w, (Instr.build 63 #[(0, .int .i64 (n : Int))]).run Try.prog w = .ok (.agg #[.int .i64 (n : Int), .slice none 0 0]) w from fun w => run_build w _ _ _ (by kernel_rfl))
  clear hx hn hc h32 hd ha hr hp hpa hpn
  generalize wayL xs p = y at *
  go_enter Try.func49, Try.ntmps49
  have HB := hid (grow_refl w)
  apply wp_seq_k; intro _ _; apply wp_region_lit
  refine op_box (l := a) rfl rfl rfl ?_
  intro gb w1 hgl hgu hb hr
  have BXL := hid (Nat.le_trans HB.out.size hgl)
  replace HB := hid (Grow.trans HB.out hb)
  have BX := hid hr; have BXU := hid hgu
  clear hr hgl hgu hb
  try simp only [Act.put, List.setIfInBounds_toArray, List.set_cons_zero, List.set_cons_succ]
  refine op_allocC (z := undef) (cs := #[.int .i64 0, .slice none 0 0]) rfl rfl (fun w => by kernel_rfl) ?_
  intro gq wq hgl hgu hb hr
  have HQL := hid (Nat.le_trans HB.out.size hgl)
  have HQU := hid hgu
  replace HB := hid (Grow.trans HB.out hb)
  replace BX := hid (grow_block BX.out hb)
  clear hb
  have R4 := hid hr
  clear hr hgl hgu
  try simp only [Act.put, List.setIfInBounds_toArray, List.set_cons_zero, List.set_cons_succ]
  go_wp2_with fail
  refine (HRI.out _ (HX.out.grow HB.out)).mono ?_
  rintro e w2 ⟨rfl, hb⟩
  replace HB := hid (Grow.trans HB.out hb)
  replace BX := hid (grow_block BX.out hb)
  replace R4 := hid (grow_block R4.out hb)
  clear hb
  have HQU2 := hid (blk_lt R4.out)
  go_wp2_with (first | (refine opG_build (ps := #[(0, .int .i64 (n : Int))]) rfl rfl (by simp only [List.map_toArray, List.map_cons, List.map_nil]; rfl) HBN.out ?_) | (refine op_allocC (z := undef) (cs := #[.int .i64 0, .slice none 0 0]) rfl rfl (fun w => by kernel_rfl) ?_))
  intro g6 w6 hgl hgu hb hr
  have H6L := hid (Nat.le_trans HB.out.size hgl)
  have NE46 := hid (show gq ≠ g6 by have := HQU2.out; omega)
  replace HB := hid (Grow.trans HB.out hb)
  replace BX := hid (grow_block BX.out hb)
  replace R4 := hid (grow_block R4.out hb)
  clear hb
  have P6 := hid hr
  clear hr hgl hgu HQU2
  go_wp2_with (refine store_block 63 _ _ g6 0 [.int .i64 (n : Int), .slice none 0 0] [.int .i64 0, .slice none 0 0] [.int .i64 (n : Int), .slice none 0 0] 63 rfl rfl rfl rfl rfl P6.out (by rw [infoProof]; rfl) (by simp) (by intro v hv; simp at hv; rcases hv with rfl | rfl <;> rfl) (by simp) ?_)
  intro w7 hz hgb hbz
  have NEB6 := hid (show gb ≠ g6 by have := blk_lt BX.out; have := blk_lt R4.out; have := H6L.out; intro e; subst e; have h1 := BX.out; have h2 := P6.out; rw [h1] at h2; injection h2 with h2; injection h2 with h3; simp at h3; have := congrArg List.length h3; simp [u8s_length] at this; have := HA.out; omega)
  have BX' := hid (blk_other hgb BX.out NEB6.out)
  have R4' := hid (blk_other hgb R4.out NE46.out)
  have HB' := hid (hbz _ _ HB.out H6L.out)
  have P6' := hid hz
  clear hz hgb hbz NEB6
  replace BX := BX'
  replace R4 := R4'
  replace HB := HB'
  replace P6 := P6'
  clear BX' R4' HB' P6'
  go_wp2_with (first | (refine op_loadId rfl rfl rfl BX.out (HA.out) ?_) |  fail)
  refine (HIP.out _ (HX.out.grow HB.out)).mono ?_
  rintro e w3 ⟨rfl, hb⟩
  replace HB := hid (Grow.trans HB.out hb)
  replace BX := hid (grow_block BX.out hb)
  replace R4 := hid (grow_block R4.out hb)
  replace P6 := hid (grow_block P6.out hb)
  clear hb
  go_wp2_with fail
  have HDB := hid (fun j v hv => grow_cell (HD.out j v hv) HB.out)
  (refine' wp_region_head 12 0 [_, _, _, _, _, _, _, _, _, _, _, _] rfl (by kernel_rfl) (by kernel_rfl) ?hreg1; case' hreg1 => simp only [List.take_succ_cons, List.take_zero, List.zip_cons_cons, List.zip_nil_right, List.drop_succ_cons, List.drop_zero, List.drop_nil])
  (refine' head_val ?dw2 ?de2 ?dr2 ?dh2; (case' dw2 => rfl); (case' de2 => (first | exact fun _ _ _ => trivial | (intro t ht w; cases ht; simp [upE]))); (case' dr2 => (intro w' hw' _; go_simp; with_reducible rfl)); (case' dh2 => (try simp only [Act.put, List.setIfInBounds_toArray, List.set_cons_zero, List.set_cons_succ]))); (refine' head_val ?dw3 ?de3 ?dr3 ?dh3; (case' dw3 => rfl); (case' de3 => (first | exact fun _ _ _ => trivial | (intro t ht w; cases ht; simp [upE]))); (case' dr3 => (intro w' hw' _; go_simp; with_reducible rfl)); (case' dh3 => (try simp only [Act.put, List.setIfInBounds_toArray, List.set_cons_zero, List.set_cons_succ]))); (refine' head_val ?dw4 ?de4 ?dr4 ?dh4; (case' dw4 => rfl); (case' de4 => (first | exact fun _ _ _ => trivial | (intro t ht w; cases ht; simp [upE]))); (case' dr4 => (intro w' hw' _; go_simp; with_reducible rfl)); (case' dh4 => (try simp only [Act.put, List.setIfInBounds_toArray, List.set_cons_zero, List.set_cons_succ]))); (refine' head_val ?dw5 ?de5 ?dr5 ?dh5; (case' dw5 => rfl); (case' de5 => (first | exact fun _ _ _ => trivial | (intro t ht w; cases ht; simp [upE]))); (case' dr5 => (intro w' hw' _; go_simp; with_reducible rfl)); (case' dh5 => (try simp only [Act.put, List.setIfInBounds_toArray, List.set_cons_zero, List.set_cons_succ]))); (refine' head_val ?dw6 ?de6 ?dr6 ?dh6; (case' dw6 => rfl); (case' de6 => (first | exact fun _ _ _ => trivial | (intro t ht w; cases ht; simp [upE]))); (case' dr6 => (intro w' hw' _; go_simp; with_reducible rfl)); (case' dh6 => (try simp only [Act.put, List.setIfInBounds_toArray, List.set_cons_zero, List.set_cons_succ]))); (refine' head_val ?dw7 ?de7 ?dr7 ?dh7; (case' dw7 => rfl); (case' de7 => (first | exact fun _ _ _ => trivial | (intro t ht w; cases ht; simp [upE]))); (case' dr7 => (intro w' hw' _; go_simp; with_reducible rfl)); (case' dh7 => (try simp only [Act.put, List.setIfInBounds_toArray, List.set_cons_zero, List.set_cons_succ]))); (refine' head_val ?dw8 ?de8 ?dr8 ?dh8; (case' dw8 => rfl); (case' de8 => (first | exact fun _ _ _ => trivial | (intro t ht w; cases ht; simp [upE]))); (case' dr8 => (intro w' hw' _; go_simp; with_reducible rfl)); (case' dh8 => (try simp only [Act.put, List.setIfInBounds_toArray, List.set_cons_zero, List.set_cons_succ]))); (refine' head_val ?dw9 ?de9 ?dr9 ?dh9; (case' dw9 => rfl); (case' de9 => (first | exact fun _ _ _ => trivial | (intro t ht w; cases ht; simp [upE]))); (case' dr9 => (intro w' hw' _; go_simp; with_reducible rfl)); (case' dh9 => (try simp only [Act.put, List.setIfInBounds_toArray, List.set_cons_zero, List.set_cons_succ])))
  (refine' head_loadAt (x := _) rfl ?_ rfl rfl (HDB.out) (HA.out) ?_; (first | exact fun _ _ _ => trivial | (intro t ht w; cases ht; simp [upE])); try simp only [Act.put, List.setIfInBounds_toArray, List.set_cons_zero, List.set_cons_succ])
  (refine' head_loadId (x := _) rfl ?_ rfl rfl BX.out (HA.out) ?_; (first | exact fun _ _ _ => trivial | (intro t ht w; cases ht; simp [upE])); try simp only [Act.put, List.setIfInBounds_toArray, List.set_cons_zero, List.set_cons_succ])
  (refine' head_val ?dw10 ?de10 ?dr10 ?dh10; (case' dw10 => rfl); (case' de10 => (first | exact fun _ _ _ => trivial | (intro t ht w; cases ht; simp [upE]))); (case' dr10 => (intro w' hw' _; go_simp; with_reducible rfl)); (case' dh10 => (try simp only [Act.put, List.setIfInBounds_toArray, List.set_cons_zero, List.set_cons_succ]))); (refine' head_val ?dw11 ?de11 ?dr11 ?dh11; (case' dw11 => rfl); (case' de11 => (first | exact fun _ _ _ => trivial | (intro t ht w; cases ht; simp [upE]))); (case' dr11 => (intro w' hw' _; go_simp; with_reducible rfl)); (case' dh11 => (try simp only [Act.put, List.setIfInBounds_toArray, List.set_cons_zero, List.set_cons_succ])))
  refine head_nil ?_
  intro w9 hb _
  refine wpList_nil ?_
  replace HB := hid (Grow.trans HB.out hb)
  replace BX := hid (grow_block BX.out hb)
  replace R4 := hid (grow_block R4.out hb)
  replace P6 := hid (grow_block P6.out hb)
  clear hb
  clear HDB hq1 hq2
  go_wp2_with fail
  have HLT6 := hid (blk_lt P6.out)
  have HLT4 := hid (blk_lt R4.out)
  refine (HPL.out _ (HX.out.grow HB.out)).mono ?_
  rintro e w10 ⟨WA, m, wc, rfl, ho, hm, hb⟩
  have HO := hid ho
  have HM := hid hm
  have HSZ := hid HB.out.size
  replace HB := hid (Grow.trans HB.out hb)
  replace BX := hid (grow_block BX.out hb)
  replace R4 := hid (grow_block R4.out hb)
  replace P6 := hid (grow_block P6.out hb)
  clear hb
  clear ho hm
  go_wp2_with (first | (refine op_row1Pl rfl rfl rfl (placeC_length _ HA.out _ _) ?_) | fail)
  intro gp w11 hgl hgu hb hr
  have HGPL := hid (show w.heap.size ≤ gp from Nat.le_trans HB.out.size hgl)
  have NEP6 := hid (show gp ≠ g6 by have := blk_lt P6.out; omega)
  have NEP4 := hid (show gp ≠ gq by have := blk_lt R4.out; omega)
  replace HO := hid (HO.out.grow hb)
  replace HB := hid (Grow.trans HB.out hb)
  replace BX := hid (grow_block BX.out hb)
  replace R4 := hid (grow_block R4.out hb)
  replace P6 := hid (grow_block P6.out hb)
  clear hb
  have GP := hid hr
  clear hr hgl hgu
  go_wp2_with (refine op_store1 rfl rfl rfl rfl rfl P6.out rfl rfl (by kernel_rfl) (by simp) ?_)
  intro w12 hz hgb hbz
  have R4' := hid (blk_other hgb R4.out NE46.out)
  have GP' := hid (blk_other hgb GP.out NEP6.out)
  have HO' := hid (own_keep HO.out hgb HLT6.out)
  have HB' := hid (hbz _ _ HB.out H6L.out)
  have P6' := hid (show w12.heap[g6]? = some (.cells #[.int .i64 (n : Int), .slice (some ⟨gp, 0, none⟩) 1 1] 63 (0, 0)) from hz)
  clear hz hgb hbz
  replace R4 := R4'
  replace GP := GP'
  replace HO := HO'
  replace HB := HB'
  replace P6 := P6'
  clear R4' GP' HO' HB' P6'
  go_wp2_with (first | (refine opG_loadB rfl rfl rfl P6.out Try.underlying63 rfl rfl ?_) | (refine store_block 63 _ _ gq 0 [.int .i64 (n : Int), .slice (some ⟨gp, 0, none⟩) 1 1] [.int .i64 0, .slice none 0 0] [.int .i64 (n : Int), .slice (some ⟨gp, 0, none⟩) 1 1] 63 rfl rfl rfl rfl rfl R4.out (by rw [infoProof]; rfl) (by simp) (by intro v hv; simp at hv; rcases hv with rfl | rfl <;> rfl) (by simp) ?_))
  intro wz hz hgb hbz
  have HZ := hid hz
  have GPZ := hid (blk_other hgb GP.out NEP4.out)
  have HOZ := hid (own_keep HO.out hgb HLT4.out)
  have HBZ := hid (hbz _ _ HB.out HQL.out)
  clear hz hgb hbz
  go_wp2_with fail
  refine bodyPost_ret (ret_proof rfl rfl HZ.out rfl) rfl ?_
  exact ⟨gp, WA, m, wc, rfl, HGPL.out, GPZ.out, HOZ.out.base HSZ.out, HM.out, HBZ.out⟩
end Go.Proofs.Ytffgifegaagndaa
