/- The chapter's example of witness; the law WitnessParams. -/
import Derived.Test.YtabkaflccaklhaaGreatQWit9
import Derived.Test.YtabkaflccaklhaaGreatQWitX
import Derived.Test.YtabkaflccaklhaaGreatQLate
set_option linter.unusedSimpArgs false
set_option linter.unusedVariables false
namespace Go.Proofs.YtabkaflccaklhaaGreat
open Go.RowKit
open Go.Qk hiding rotr b4
set_option maxHeartbeats 2000000
set_option maxRecDepth 100000
theorem ver_own9 (seed : ByteArray) (r x : Nat) (sum : IdK) (hx : x < 2 ^ r) : verErr 8 r (ktOf seed 8 r) sum x (rowOf (shownG seed x sum) 8) (rowOf (hiddenG seed x sum) 8) (wayOf seed 8 r x) = 0 := by
  have hr : rightB ((8 : Nat) : Int) = true := by decide
  have e : rootOf sum x (rowOf (shownG seed x sum) 8) (rowOf (hiddenG seed x sum) 8) (wayOf seed 8 r x) = nodeOf seed 8 r 0 := by
    unfold rootOf
    rw [sign_rec seed x sum 8 hr, Int.toNat_natCast, climb_root seed 8 x r hx]
  unfold verErr
  rw [e, show keyOf 8 r (nodeOf seed 8 r 0) = ktOf seed 8 r from rfl, beq_self_eq_true, if_pos rfl]
theorem fits_own9 (r x n m k : Nat) (hk : ktB 8 r = true) (hx : x < 2 ^ r) (hn : n = 8) (hm : m = 8) (hw : k = r) : fitsB 8 r x n m k = true := by
  subst hn hm hw
  unfold fitsB
  rw [hk, Int.toNat_natCast]
  generalize 2 ^ k = N at hx ⊢
  have h2 : decide ((0 : Int) ≤ (x : Int)) = true := by simp
  have h3 : decide ((x : Int) < (N : Int)) = true := by simp; omega
  rw [h2, h3]
  simp
/-- What is found in a seed's own signature: the call. -/
theorem wFind_own (seed : ByteArray) (hsd : seed.size ≤ 1000000) (h : Nat) (hk : ktB 8 h = true) (hh2 : h ≤ 2) (A0 : Option Addr) (n0 c0 : Nat) (fs : List WRow) (sum : IdK) (hs : sum.length = 32) (leaf : Nat) (hlf : leaf < 2 ^ h) (A B C : Option Addr) (n m k c d e : Nat) (w : World)
    (h0 : WrRow w A0 fs) (hn0 : fs.length = n0) (f32 : ∀ x ∈ fs, x.2.length = 32) (hA : IdRow w A (rowOf (shownG seed leaf sum) 8)) (hB : IdRow w B (rowOf (hiddenG seed leaf sum) 8)) (hC : IdRow w C (wayOf seed 8 h leaf)) (hn : (rowOf (shownG seed leaf sum) 8).length = n) (hm : (rowOf (hiddenG seed leaf sum) 8).length = m) (hkk : (wayOf seed 8 h leaf).length = k) (hke : k ≤ e) :
    Calls Tryz.prog 27 #[.agg #[.int .i64 8, .int .i64 (h : Int)], .string seed, .slice A0 n0 c0, idV sum, .agg #[.int .i64 (leaf : Int), .slice A n c, .slice B m d, .slice C k e]] w fun r w' => r = .returned (.tuple #[.agg (ownC9 seed 8 leaf fs sum).toArray, .int .i64 0]) ∧ Below w.heap.size w w' := by
  have := wFind_ok seed hsd 8 h hk hh2 A0 n0 c0 fs sum hs leaf A B C n m k c d e (rowOf (shownG seed leaf sum) 8) (rowOf (hiddenG seed leaf sum) 8) (wayOf seed 8 h leaf) w h0 hn0 f32 hA hB hC hn hm hkk (rowOf_32 _ (shownG_length seed leaf sum) 8) (rowOf_32 _ (hiddenG_length seed leaf sum) 8) (wayOf_32 seed 8 h leaf)
    (fits_own9 h leaf n m k hk hlf (by rw [← hn, rowOf_length]) (by rw [← hm, rowOf_length]) (by rw [← hkk, wayOf_length])) (ver_own9 seed h leaf sum hlf) hke
  rw [findC_own seed 8 h leaf fs sum (by decide) hlf] at this
  exact this
def s80 : IdK := [128] ++ List.replicate 31 0
def seedS : ByteArray := ⟨#[115]⟩
theorem run_build80 (w : World) : (Instr.build 42 #[(0, .int .u8 128)]).run Tryz.prog w = .ok (idV s80) w := by kernel_rfl
theorem own80 (seed : ByteArray) : ownC9 seed 8 0 [] s80 = witC 3 [] [] 0 0 1 (secretOf seed 0 0 1) := by
  have h1 : honestW 8 [] s80 ((0 : Nat) : Int) = false := rfl
  have h2 : firstW 8 [] s80 ((0 : Nat) : Int) = some 0 := rfl
  unfold ownC9
  rw [h1, h2]
  rfl
theorem wit_val_cells {w : World} {g : Nat} {k leaf bit side : Int} {a b : List UInt8} {v : IdK} {T : TypeId} {fr : Nat × Nat} (hg : w.heap[g]? = some (.cells (witC k a b leaf bit side v).toArray T fr)) (j : Nat) (u : Value) (hu : (u8s v)[j]? = some u) : w.cell? ((⟨g, 6, none⟩ : Addr).add j) = some u := by
  have e : (⟨g, 6, none⟩ : Addr).add j = ⟨g, 6 + j, none⟩ := by unfold Addr.add; split <;> simp_all
  rw [e]
  refine blk_cell hg ?_
  unfold witC
  rw [List.getElem?_toArray, List.getElem?_append_right (by show 6 ≤ 6 + j; omega)]
  have e2 : 6 + j - [Value.int .i64 k, .string (bs a), .string (bs b), .int .i64 leaf, .int .i64 bit, .int .i64 side].length = j := by show 6 + j - 6 = j; omega
  rw [e2]
  exact hu
theorem awake09 (w : World) : Calls Tryz.prog 24 #[] w fun e w' => e = .returned (.bool true) ∧ Below w.heap.size w w' := by
  have HSG : Hid (∀ w, Calls Tryz.prog 26 #[.agg #[.int .i64 8, .int .i64 0], .string ⟨#[115]⟩, .int .i64 0, idV s80] w fun e w' => ∃ v, e = .returned v ∧ sigAtC 0 (rowOf (shownG seedS 0 s80) 8) (rowOf (hiddenG seedS 0 s80) 8) (wayOf seedS 8 0 0) v w' ∧ Below w.heap.size w w') := hid (fun w => refSign8C 8 0 (by omega) (by omega) seedS (by decide) 0 (by decide) s80 rfl w)
  have HFD := hid (fun (A1 A2 A3 : Option Addr) (c1 c2 c3 : Nat) (w : World) (q1 : IdRow w A1 (rowOf (shownG seedS 0 s80) 8)) (q2 : IdRow w A2 (rowOf (hiddenG seedS 0 s80) 8)) (q3 : IdRow w A3 (wayOf seedS 8 0 0)) =>
    show Calls Tryz.prog 27 #[.agg #[.int .i64 8, .int .i64 0], .string ⟨#[115]⟩, .slice none 0 0, idV s80, .agg #[.int .i64 0, .slice A1 (rowOf (shownG seedS 0 s80) 8).length c1, .slice A2 (rowOf (hiddenG seedS 0 s80) 8).length c2, .slice A3 (wayOf seedS 8 0 0).length c3]] w fun r w' => r = .returned (.tuple #[.agg (witC 3 [] [] 0 0 1 (secretOf seedS 0 0 1)).toArray, .int .i64 0]) ∧ Below w.heap.size w w' from by
      have := wFind_own seedS (by decide) 0 (by decide) (by omega) none 0 0 [] s80 rfl 0 (by decide) A1 A2 A3 _ _ _ c1 c2 c3 w (wrRow_nil w) rfl (fun _ h => by cases h) q1 q2 q3 rfl rfl rfl (by rw [wayOf_length]; omega)
      rw [own80] at this
      exact this)
  have LS := hid (secretOf_length seedS 0 0 1)
  have HSE : Hid (∀ w, Calls Tryz.prog 32 #[.string ⟨#[115]⟩, .int .i64 0, .int .i64 0, .int .i64 1] w fun e w' => e = .returned (idV (secretOf seedS 0 0 1)) ∧ Below w.heap.size w w') := hid (fun w => refSecret seedS 0 0 1 (by decide) w)
  have HB80 := hid run_build80
  have L80 := hid (show s80.length = 32 from rfl)
  generalize s80 = s at *
  generalize secretOf seedS 0 0 1 = sec at *
  generalize rowOf (shownG seedS 0 s) 8 = xs at *
  generalize rowOf (hiddenG seedS 0 s) 8 = ys at *
  generalize wayOf seedS 8 0 0 = zs at *
  have hq1 := fun w => id_eql_self sec LS.out w
  have hq2 := id_guard .eql sec sec
  go_enter Tryz.func24, Tryz.ntmps24
  have HB := hid (grow_refl w)
  go_wp2_with (first | (refine op_allocstoreB (z := [.int .i64 0, .int .i64 0]) (cs := [.int .i64 8, .int .i64 0]) rfl rfl rfl rfl rfl rfl (fun _ => by kernel_rfl) (fun _ => rfl) (fun _ => rfl) rfl (by kernel_rfl) (by intro v hv; simp at hv; rcases hv with rfl | rfl <;> rfl) ?_) | fail)
  intro gp w1 hgl hgu hb hr
  replace HB := hid (Grow.trans HB.out hb)
  clear hb
  have P := hid (show w1.heap[gp]? = some (.cells #[.int .i64 8, .int .i64 0] 54 (0, 0)) from hr)
  clear hgl hgu hr
  go_wp2_with (first | (refine opG_build (ps := #[(0, .int .u8 128)]) rfl rfl (by simp only [List.map_toArray, List.map_cons, List.map_nil]; rfl) HB80.out ?_) | (refine op_allocstore (l := s) rfl rfl rfl rfl rfl rfl (fun _ => rfl) ⟨fun _ => rfl, L80.out⟩ ?_) | fail)
  intro gs w2 hgl hgu hb hr
  replace HB := hid (Grow.trans HB.out hb)
  replace P := hid (grow_block P.out hb)
  clear hb
  have X := hid hr
  clear hgl hgu hr
  go_wp2_with fail
  have HBS := hid HB.out.size
  (refine' wp_region_headL 10 2 8 [_, _, _, _, _, _, _, _, _, _] rfl (by kernel_rfl) (by kernel_rfl) (by intro op ho v c a w h; cases ho; exact h) ?hreg1; case' hreg1 => simp only [List.take_succ_cons, List.take_zero, List.zip_cons_cons, List.zip_nil_right, List.drop_succ_cons, List.drop_zero, List.drop_nil])
  (refine' head_loadB rfl ?_ rfl rfl P.out Tryz.underlying54 rfl rfl ?_; (first | exact fun _ _ _ => trivial | (intro t ht w; cases ht; simp [upE])); try simp only [Act.put, List.setIfInBounds_toArray, List.set_cons_zero, List.set_cons_succ])
  (refine' head_loadId (x := _) rfl ?_ rfl rfl X.out (L80.out) ?_; (first | exact fun _ _ _ => trivial | (intro t ht w; cases ht; simp [upE])); try simp only [Act.put, List.setIfInBounds_toArray, List.set_cons_zero, List.set_cons_succ])
  (refine' head_loadB rfl ?_ rfl rfl P.out Tryz.underlying54 rfl rfl ?_; (first | exact fun _ _ _ => trivial | (intro t ht w; cases ht; simp [upE])); try simp only [Act.put, List.setIfInBounds_toArray, List.set_cons_zero, List.set_cons_succ])
  (refine' head_loadId (x := _) rfl ?_ rfl rfl X.out (L80.out) ?_; (first | exact fun _ _ _ => trivial | (intro t ht w; cases ht; simp [upE])); try simp only [Act.put, List.setIfInBounds_toArray, List.set_cons_zero, List.set_cons_succ])
  (refine' head_sigC (leaf := 0) (xs := xs) (ys := ys) (zs := zs) ?cw1 ?ce1 ?cr1 ?cc1 ?ch1; (case' cw1 => rfl); (case' ce1 => (first | exact fun _ _ _ => trivial | (intro t ht w; cases ht; simp [upE]))); (case' cr1 => (intro w'; go_simp; first | exact ⟨rfl, rfl⟩ | with_reducible rfl)); (case' cc1 => (intro w' hw' hE; exact HSG.out w')); (case' ch1 => (intro A1 c1 A2 c2 A3 c3 k1 k2 k3; try simp only [Act.put, List.setIfInBounds_toArray, List.set_cons_zero, List.set_cons_succ])))
  (refine' head_call ?cw2 ?ce2 ?cr2 ?cc2 ?ch2; (case' cw2 => rfl); (case' ce2 => (first | exact fun _ _ _ => trivial | (intro t ht w; cases ht; simp [upE]))); (case' cr2 => (intro w'; go_simp; first | exact ⟨rfl, rfl⟩ | with_reducible rfl)); (case' cc2 => (intro w' hw' hE; exact HFD.out A1 A2 A3 c1 c2 c3 w' (sigC_at (hE 12 (by decide))).1 (sigC_at (hE 12 (by decide))).2.1 (sigC_at (hE 12 (by decide))).2.2)); (case' ch2 => (try simp only [Act.put, List.setIfInBounds_toArray, List.set_cons_zero, List.set_cons_succ])))
  (refine' head_val ?dw3 ?de3 ?dr3 ?dh3; (case' dw3 => rfl); (case' de3 => (first | exact fun _ _ _ => trivial | (intro t ht w; cases ht; simp [upE]))); (case' dr3 => (intro w' hw' _; go_simp; with_reducible rfl)); (case' dh3 => (try simp only [Act.put, List.setIfInBounds_toArray, List.set_cons_zero, List.set_cons_succ]))); (refine' head_val ?dw4 ?de4 ?dr4 ?dh4; (case' dw4 => rfl); (case' de4 => (first | exact fun _ _ _ => trivial | (intro t ht w; cases ht; simp [upE]))); (case' dr4 => (intro w' hw' _; go_simp; with_reducible rfl)); (case' dh4 => (try simp only [Act.put, List.setIfInBounds_toArray, List.set_cons_zero, List.set_cons_succ]))); (refine' head_val ?dw5 ?de5 ?dr5 ?dh5; (case' dw5 => rfl); (case' de5 => (first | exact fun _ _ _ => trivial | (intro t ht w; cases ht; simp [upE]))); (case' dr5 => (intro w' hw' _; go_simp; with_reducible rfl)); (case' dh5 => (try simp only [Act.put, List.setIfInBounds_toArray, List.set_cons_zero, List.set_cons_succ])))
  (refine' head_newCW (cs := witZ.toArray) rfl rfl (fun _ => by kernel_rfl) ?_; intro gf; try simp only [Act.put, List.setIfInBounds_toArray, List.set_cons_zero, List.set_cons_succ])
  refine head_nil ?_
  intro w1 hb hE
  replace HB := hid (Grow.trans HB.out hb)
  replace P := hid (grow_block P.out hb)
  replace X := hid (grow_block X.out hb)
  clear hb
  obtain ⟨hgf, hgc⟩ := celNewW_at (hE 3)
  have FL := hid (Nat.le_trans HBS.out hgf)
  have F := hid hgc
  clear hE hgf hgc P X HBS
  go_wp2_with (first | (refine store_block 61 _ _ gf 0 (witC 3 [] [] 0 0 1 sec) witZ (witC 3 [] [] 0 0 1 sec) 61 rfl rfl rfl rfl rfl F.out (by rw [infoWit, witC_length LS.out]) (by rw [witC_length LS.out]; exact Nat.le_refl _) (witC_one _ _ _ _ _ _ _) (by rw [List.take_zero, List.nil_append, List.drop_eq_nil_of_le (by rw [witC_length LS.out]; exact Nat.le_refl _), List.append_nil]) ?_) | fail)
  intro wz hz _ hbz
  have HW := hid hz
  have HB1 := hid (hbz _ _ HB.out FL.out)
  clear hz hbz HB F
  have HB := HB1
  clear HB1
  go_wp2_with fail
  (refine' wp_region_head 24 0 [_, _, _, _, _, _, _, _, _, _, _, _, _, _, _, _, _, _, _, _, _, _, _, _] rfl (by kernel_rfl) (by kernel_rfl) ?hreg6; case' hreg6 => simp only [List.take_succ_cons, List.take_zero, List.zip_cons_cons, List.zip_nil_right, List.drop_succ_cons, List.drop_zero, List.drop_nil])
  (refine' head_val ?dw7 ?de7 ?dr7 ?dh7; (case' dw7 => rfl); (case' de7 => (first | exact fun _ _ _ => trivial | (intro t ht w; cases ht; simp [upE]))); (case' dr7 => (intro w' hw' _; go_simp; with_reducible rfl)); (case' dh7 => (try simp only [Act.put, List.setIfInBounds_toArray, List.set_cons_zero, List.set_cons_succ]))); (refine' head_val ?dw8 ?de8 ?dr8 ?dh8; (case' dw8 => rfl); (case' de8 => (first | exact fun _ _ _ => trivial | (intro t ht w; cases ht; simp [upE]))); (case' dr8 => (intro w' hw' _; go_simp; with_reducible rfl)); (case' dh8 => (try simp only [Act.put, List.setIfInBounds_toArray, List.set_cons_zero, List.set_cons_succ]))); (refine' head_val ?dw9 ?de9 ?dr9 ?dh9; (case' dw9 => rfl); (case' de9 => (first | exact fun _ _ _ => trivial | (intro t ht w; cases ht; simp [upE]))); (case' dr9 => (intro w' hw' _; go_simp; with_reducible rfl)); (case' dh9 => (try simp only [Act.put, List.setIfInBounds_toArray, List.set_cons_zero, List.set_cons_succ]))); (refine' head_val ?dw10 ?de10 ?dr10 ?dh10; (case' dw10 => rfl); (case' de10 => (first | exact fun _ _ _ => trivial | (intro t ht w; cases ht; simp [upE]))); (case' dr10 => (intro w' hw' _; go_simp; with_reducible rfl)); (case' dh10 => (try simp only [Act.put, List.setIfInBounds_toArray, List.set_cons_zero, List.set_cons_succ])))
  (refine' head_load1 (i := 0) (v := (.int .i64 3)) rfl ?_ rfl rfl HW.out rfl Tryz.underlying3 rfl ?_; (first | exact fun _ _ _ => trivial | (intro t ht w; cases ht; simp [upE])); try simp only [Act.put, List.setIfInBounds_toArray, List.set_cons_zero, List.set_cons_succ])
  (refine' head_val ?dw11 ?de11 ?dr11 ?dh11; (case' dw11 => rfl); (case' de11 => (first | exact fun _ _ _ => trivial | (intro t ht w; cases ht; simp [upE]))); (case' dr11 => (intro w' hw' _; go_simp; with_reducible rfl)); (case' dh11 => (try simp only [Act.put, List.setIfInBounds_toArray, List.set_cons_zero, List.set_cons_succ]))); (refine' head_val ?dw12 ?de12 ?dr12 ?dh12; (case' dw12 => rfl); (case' de12 => (first | exact fun _ _ _ => trivial | (intro t ht w; cases ht; simp [upE]))); (case' dr12 => (intro w' hw' _; go_simp; with_reducible rfl)); (case' dh12 => (try simp only [Act.put, List.setIfInBounds_toArray, List.set_cons_zero, List.set_cons_succ]))); (refine' head_val ?dw13 ?de13 ?dr13 ?dh13; (case' dw13 => rfl); (case' de13 => (first | exact fun _ _ _ => trivial | (intro t ht w; cases ht; simp [upE]))); (case' dr13 => (intro w' hw' _; go_simp; with_reducible rfl)); (case' dh13 => (try simp only [Act.put, List.setIfInBounds_toArray, List.set_cons_zero, List.set_cons_succ]))); (refine' head_val ?dw14 ?de14 ?dr14 ?dh14; (case' dw14 => rfl); (case' de14 => (first | exact fun _ _ _ => trivial | (intro t ht w; cases ht; simp [upE]))); (case' dr14 => (intro w' hw' _; go_simp; with_reducible rfl)); (case' dh14 => (try simp only [Act.put, List.setIfInBounds_toArray, List.set_cons_zero, List.set_cons_succ])))
  (refine' head_load1 (i := 4) (v := (.int .i64 0)) rfl ?_ rfl rfl HW.out rfl Tryz.underlying3 rfl ?_; (first | exact fun _ _ _ => trivial | (intro t ht w; cases ht; simp [upE])); try simp only [Act.put, List.setIfInBounds_toArray, List.set_cons_zero, List.set_cons_succ])
  (refine' head_val ?dw15 ?de15 ?dr15 ?dh15; (case' dw15 => rfl); (case' de15 => (first | exact fun _ _ _ => trivial | (intro t ht w; cases ht; simp [upE]))); (case' dr15 => (intro w' hw' _; go_simp; with_reducible rfl)); (case' dh15 => (try simp only [Act.put, List.setIfInBounds_toArray, List.set_cons_zero, List.set_cons_succ]))); (refine' head_val ?dw16 ?de16 ?dr16 ?dh16; (case' dw16 => rfl); (case' de16 => (first | exact fun _ _ _ => trivial | (intro t ht w; cases ht; simp [upE]))); (case' dr16 => (intro w' hw' _; go_simp; with_reducible rfl)); (case' dh16 => (try simp only [Act.put, List.setIfInBounds_toArray, List.set_cons_zero, List.set_cons_succ]))); (refine' head_val ?dw17 ?de17 ?dr17 ?dh17; (case' dw17 => rfl); (case' de17 => (first | exact fun _ _ _ => trivial | (intro t ht w; cases ht; simp [upE]))); (case' dr17 => (intro w' hw' _; go_simp; with_reducible rfl)); (case' dh17 => (try simp only [Act.put, List.setIfInBounds_toArray, List.set_cons_zero, List.set_cons_succ]))); (refine' head_val ?dw18 ?de18 ?dr18 ?dh18; (case' dw18 => rfl); (case' de18 => (first | exact fun _ _ _ => trivial | (intro t ht w; cases ht; simp [upE]))); (case' dr18 => (intro w' hw' _; go_simp; with_reducible rfl)); (case' dh18 => (try simp only [Act.put, List.setIfInBounds_toArray, List.set_cons_zero, List.set_cons_succ])))
  (refine' head_load1 (i := 5) (v := (.int .i64 1)) rfl ?_ rfl rfl HW.out rfl Tryz.underlying3 rfl ?_; (first | exact fun _ _ _ => trivial | (intro t ht w; cases ht; simp [upE])); try simp only [Act.put, List.setIfInBounds_toArray, List.set_cons_zero, List.set_cons_succ])
  (refine' head_val ?dw19 ?de19 ?dr19 ?dh19; (case' dw19 => rfl); (case' de19 => (first | exact fun _ _ _ => trivial | (intro t ht w; cases ht; simp [upE]))); (case' dr19 => (intro w' hw' _; go_simp; with_reducible rfl)); (case' dh19 => (try simp only [Act.put, List.setIfInBounds_toArray, List.set_cons_zero, List.set_cons_succ]))); (refine' head_val ?dw20 ?de20 ?dr20 ?dh20; (case' dw20 => rfl); (case' de20 => (first | exact fun _ _ _ => trivial | (intro t ht w; cases ht; simp [upE]))); (case' dr20 => (intro w' hw' _; go_simp; with_reducible rfl)); (case' dh20 => (try simp only [Act.put, List.setIfInBounds_toArray, List.set_cons_zero, List.set_cons_succ]))); (refine' head_val ?dw21 ?de21 ?dr21 ?dh21; (case' dw21 => rfl); (case' de21 => (first | exact fun _ _ _ => trivial | (intro t ht w; cases ht; simp [upE]))); (case' dr21 => (intro w' hw' _; go_simp; with_reducible rfl)); (case' dh21 => (try simp only [Act.put, List.setIfInBounds_toArray, List.set_cons_zero, List.set_cons_succ]))); (refine' head_val ?dw22 ?de22 ?dr22 ?dh22; (case' dw22 => rfl); (case' de22 => (first | exact fun _ _ _ => trivial | (intro t ht w; cases ht; simp [upE]))); (case' dr22 => (intro w' hw' _; go_simp; with_reducible rfl)); (case' dh22 => (try simp only [Act.put, List.setIfInBounds_toArray, List.set_cons_zero, List.set_cons_succ])))
  (refine' head_loadAt (x := _) rfl ?_ rfl rfl (wit_val_cells HW.out) (LS.out) ?_; (first | exact fun _ _ _ => trivial | (intro t ht w; cases ht; simp [upE])); try simp only [Act.put, List.setIfInBounds_toArray, List.set_cons_zero, List.set_cons_succ])
  (refine' head_call ?cw23 ?ce23 ?cr23 ?cc23 ?ch23; (case' cw23 => rfl); (case' ce23 => (first | exact fun _ _ _ => trivial | (intro t ht w; cases ht; simp [upE]))); (case' cr23 => (intro w'; go_simp; first | exact ⟨rfl, rfl⟩ | with_reducible rfl)); (case' cc23 => (intro w' hw' _; exact HSE.out w')); (case' ch23 => (try simp only [Act.put, List.setIfInBounds_toArray, List.set_cons_zero, List.set_cons_succ])))
  (refine' head_val ?dw24 ?de24 ?dr24 ?dh24; (case' dw24 => rfl); (case' de24 => (first | exact fun _ _ _ => trivial | (intro t ht w; cases ht; simp [upE]))); (case' dr24 => (intro w' hw' _; go_simp; with_reducible rfl)); (case' dh24 => (try simp only [Act.put, List.setIfInBounds_toArray, List.set_cons_zero, List.set_cons_succ]))); (refine' head_val ?dw25 ?de25 ?dr25 ?dh25; (case' dw25 => rfl); (case' de25 => (first | exact fun _ _ _ => trivial | (intro t ht w; cases ht; simp [upE]))); (case' dr25 => (intro w' hw' _; go_simp; with_reducible rfl)); (case' dh25 => (try simp only [Act.put, List.setIfInBounds_toArray, List.set_cons_zero, List.set_cons_succ]))); (refine' head_val ?dw26 ?de26 ?dr26 ?dh26; (case' dw26 => rfl); (case' de26 => (first | exact fun _ _ _ => trivial | (intro t ht w; cases ht; simp [upE]))); (case' dr26 => (intro w' hw' _; go_simp; with_reducible rfl)); (case' dh26 => (try simp only [Act.put, List.setIfInBounds_toArray, List.set_cons_zero, List.set_cons_succ])))
  refine head_nil ?_
  intro w2 hb _
  replace HB := hid (Grow.trans HB.out hb)
  replace HW := hid (grow_block HW.out hb)
  clear hb
  refine wpList_nil ?_
  go_wp2_with fail
  go_ret
  exact ⟨rfl, HB.out⟩
end Go.Proofs.YtabkaflccaklhaaGreat
