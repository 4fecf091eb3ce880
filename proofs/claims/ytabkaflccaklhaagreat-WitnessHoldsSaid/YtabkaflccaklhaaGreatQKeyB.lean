/- keytree.Key: contract. -/
import Derived.Test.YtabkaflccaklhaaGreatQKeyA
set_option linter.unusedSimpArgs false
set_option linter.unusedVariables false
namespace Go.Proofs.YtabkaflccaklhaaGreat
open Go.RowKit
open Go.Qk hiding rotr b4
set_option maxHeartbeats 1000000
set_option maxRecDepth 100000
theorem conv1 {E : Tmp → World → Prop} {t : Tmp} {g x : Nat} {w : World} (h : upE E (some t) (rowAt [.int .u8 (x : Int)] 1 (.slice (some ⟨g, 0, none⟩) 1 1)) t w) (hx : x < 256) :
    (convert 85 9 (.slice (some ⟨g, 0, none⟩) 1 1)).run Tryz.prog w = .ok (.string (bs (be 1 x))) w := by
  refine run_str w 85 5 9 Tryz.underlying85 Tryz.underlying5 Tryz.underlying9 g 0 1 (be 1 x) (fun i hi => ?_) 1 (be_length 1 x)
  rw [be_length] at hi
  obtain rfl : i = 0 := by omega
  have h1 := row_at h 0 _ rfl
  rw [addr_add] at h1
  rw [Nat.zero_add, h1, be1 x hx]
  congr 2
  exact (u8_of x hx).symm
theorem ktKey (b h : Nat) (root : IdK) (hr : root.length = 32) (hk : ktB b h = true) (w : World) :
    Calls Tryz.prog 98 #[.agg #[.int .i64 (b : Int), .int .i64 (h : Int)], idV root] w fun e w' => e = .returned (.tuple #[idV (keyOf b h root), .int .i64 0]) ∧ Below w.heap.size w w' := by
  have HRT := hid hr
  have HKL := hid (keyOf_length b h root)
  have HTX := hid (key_small b h root hr)
  have HK := hid hk
  obtain ⟨b1, b2, b3, b4⟩ := kt_bounds hk
  have hb : b ≤ 256 := by omega
  have hh : h ≤ 10 := by omega
  have HE := hid (be1 h (by omega))
  have hu8 : IntKind.u8.wrap (h : Int) = (h : Int) := by show IntKind.u8.wrap (h : Int) = (h : Int); rw [show IntKind.u8.wrap (h : Int) = (h : Int) % 256 from rfl]; omega
  clear hr hk b1 b2 b3 b4
  go_enter Tryz.func98, Tryz.ntmps98
  have HB := hid (grow_refl w)
  apply wp_seq_k; intro _ _; apply wp_region_lit
  refine op_boxC (cs := #[.int .i64 (b : Int), .int .i64 (h : Int)]) rfl rfl rfl rfl ?_
  intro gp w1 hgl hgu hb hr
  have PL := hid (Nat.le_trans HB.out.size hgl)
  replace HB := hid (Grow.trans HB.out hb)
  have P := hid hr; have PU := hid hgu
  clear hr hgl hgu hb
  try simp only [Act.put, List.setIfInBounds_toArray, List.set_cons_zero, List.set_cons_succ]
  refine op_box (l := root) rfl rfl rfl ?_
  intro gx w2 hgl hgu hb hr
  have XL := hid (Nat.le_trans HB.out.size hgl)
  replace HB := hid (Grow.trans HB.out hb)
  replace P := hid (grow_block P.out hb)
  have X := hid hr; have XU := hid hgu
  clear hr hgl hgu hb
  try simp only [Act.put, List.setIfInBounds_toArray, List.set_cons_zero, List.set_cons_succ]
  refine op_alloc rfl rfl ?_
  intro gr w3 hgl hgu hb hr
  have HRL := hid (Nat.le_trans HB.out.size hgl)
  replace HB := hid (Grow.trans HB.out hb)
  replace P := hid (grow_block P.out hb)
  replace X := hid (grow_block X.out hb)
  have HR := hid hr; have HRU := hid hgu
  clear hr hgl hgu hb
  try simp only [Act.put, List.setIfInBounds_toArray, List.set_cons_zero, List.set_cons_succ]
  go_wp2_with (first | (refine opG_loadB rfl rfl rfl P.out Tryz.underlying54 rfl rfl ?_) | (refine opG_load1 rfl rfl rfl P.out rfl Tryz.underlying3 rfl ?_) | (refine op_loadId rfl rfl rfl X.out (HRT.out) ?_) |  fail)
  refine (ktRight b h _).mono ?_
  rintro e w4 ⟨rfl, hb⟩
  replace HB := hid (Grow.trans HB.out hb)
  replace P := hid (grow_block P.out hb)
  replace X := hid (grow_block X.out hb)
  replace HR := hid (grow_block HR.out hb)
  clear hb
  rw [HK.out]
  go_wp2_with (first | (refine opG_loadB rfl rfl rfl P.out Tryz.underlying54 rfl rfl ?_) | (refine opG_load1 rfl rfl rfl P.out rfl Tryz.underlying3 rfl ?_) | (refine op_loadId rfl rfl rfl X.out (HRT.out) ?_) |  fail)
  refine (number2 b (by omega) _).mono ?_
  rintro e w5 ⟨rfl, hb⟩
  replace HB := hid (Grow.trans HB.out hb)
  replace P := hid (grow_block P.out hb)
  replace X := hid (grow_block X.out hb)
  replace HR := hid (grow_block HR.out hb)
  clear hb
  go_wp2_with (first | (refine opG_loadB rfl rfl rfl P.out Tryz.underlying54 rfl rfl ?_) | (refine opG_load1 rfl rfl rfl P.out rfl Tryz.underlying3 rfl ?_) | (refine op_loadId rfl rfl rfl X.out (HRT.out) ?_) |  fail)
  (refine' wp_region_head 12 2 [_, _, _, _, _, _, _, _, _, _, _, _] rfl (by kernel_rfl) (by kernel_rfl) ?hreg1; case' hreg1 => simp only [List.take_succ_cons, List.take_zero, List.zip_cons_cons, List.zip_nil_right, List.drop_succ_cons, List.drop_zero, List.drop_nil])
  (refine' head_val ?dw2 ?de2 ?dr2 ?dh2; (case' dw2 => rfl); (case' de2 => (first | exact fun _ _ _ => trivial | (intro t ht w; cases ht; simp [upE]))); (case' dr2 => (intro w' hw' _; go_simp; with_reducible rfl)); (case' dh2 => (try simp only [Act.put, List.setIfInBounds_toArray, List.set_cons_zero, List.set_cons_succ]))); (refine' head_val ?dw3 ?de3 ?dr3 ?dh3; (case' dw3 => rfl); (case' de3 => (first | exact fun _ _ _ => trivial | (intro t ht w; cases ht; simp [upE]))); (case' dr3 => (intro w' hw' _; go_simp; with_reducible rfl)); (case' dh3 => (try simp only [Act.put, List.setIfInBounds_toArray, List.set_cons_zero, List.set_cons_succ])))
  (refine' head_load1 rfl ?_ rfl rfl P.out rfl Tryz.underlying3 rfl ?_; (first | exact fun _ _ _ => trivial | (intro t ht w; cases ht; simp [upE])); try simp only [Act.put, List.setIfInBounds_toArray, List.set_cons_zero, List.set_cons_succ])
  (refine' head_val (v := .int .u8 (h : Int)) ?dw4 ?de4 ?dr4 ?dh4; (case' dw4 => rfl); (case' de4 => (first | exact fun _ _ _ => trivial | (intro t ht w; cases ht; simp [upE]))); (case' dr4 => (intro w' hw' hE; (go_simp; try rw [hu8]))); (case' dh4 => (try simp only [Act.put, List.setIfInBounds_toArray, List.set_cons_zero, List.set_cons_succ])))
  (refine' head_row [.int .u8 (h : Int)] 1 5 ?_ ?_ ?_; (· rfl); (· intro w; first | (go_simp; done) | (go_simp; first | with_reducible rfl | rfl)); intro g23; simp only [Act.put, List.setIfInBounds_toArray, List.set_cons_zero, List.set_cons_succ])
  (refine' head_conv (v := .string (bs (be 1 h))) ?dw5 ?de5 rfl ?dx5 ?dr5 ?dh5; (case' dw5 => rfl); (case' de5 => (first | exact fun _ _ _ => trivial | (intro t ht w; cases ht; simp [upE]))); (case' dx5 => rfl); (case' dr5 => (intro w' hw' hE; exact conv1 (hE 23 (by decide)) (by omega))); (case' dh5 => (try simp only [Act.put, List.setIfInBounds_toArray, List.set_cons_zero, List.set_cons_succ])))
  (refine' head_val ?dw6 ?de6 ?dr6 ?dh6; (case' dw6 => rfl); (case' de6 => (first | exact fun _ _ _ => trivial | (intro t ht w; cases ht; simp [upE]))); (case' dr6 => (intro w' hw' _; go_simp; with_reducible rfl)); (case' dh6 => (try simp only [Act.put, List.setIfInBounds_toArray, List.set_cons_zero, List.set_cons_succ])))
  (refine' head_conv (v := .string (bs root)) ?dw7 ?de7 rfl ?dx7 ?dr7 ?dh7; (case' dw7 => rfl); (case' de7 => (first | exact fun _ _ _ => trivial | (intro t ht w; cases ht; simp [upE]))); (case' dx7 => rfl); (case' dr7 => (intro w' hw' hE; exact run_strId (grow_block X.out hw') HRT.out)); (case' dh7 => (try simp only [Act.put, List.setIfInBounds_toArray, List.set_cons_zero, List.set_cons_succ])))
  (refine' head_row [.string (bs (be 2 b)), .string (bs (be 1 h)), .string (bs root)] 3 9 ?_ ?_ ?_; (· rfl); (· intro w; first | (go_simp; done) | (go_simp; first | with_reducible rfl | rfl)); intro g27; simp only [Act.put, List.setIfInBounds_toArray, List.set_cons_zero, List.set_cons_succ])
  (refine' head_call ?cw8 ?ce8 ?cr8 ?cc8 ?ch8; (case' cw8 => rfl); (case' ce8 => (first | exact fun _ _ _ => trivial | (intro t ht w; cases ht; simp [upE]))); (case' cr8 => (intro w'; go_simp; first | exact ⟨rfl, rfl⟩ | with_reducible rfl)); (case' cc8 => (intro w' hw' hE; exact tagOf ⟨#[107, 101, 121]⟩ _ _ _ (keyParts b h root) w' (strRow_cells (row_at (hE 27 (by decide))) (by simp [keyParts])) rfl (by decide) HTX.out)); (case' ch8 => (try simp only [Act.put, List.setIfInBounds_toArray, List.set_cons_zero, List.set_cons_succ])))
  (refine' head_val ?dw9 ?de9 ?dr9 ?dh9; (case' dw9 => rfl); (case' de9 => (first | exact fun _ _ _ => trivial | (intro t ht w; cases ht; simp [upE]))); (case' dr9 => (intro w' hw' _; go_simp; with_reducible rfl)); (case' dh9 => (try simp only [Act.put, List.setIfInBounds_toArray, List.set_cons_zero, List.set_cons_succ]))); (refine' head_val ?dw10 ?de10 ?dr10 ?dh10; (case' dw10 => rfl); (case' de10 => (first | exact fun _ _ _ => trivial | (intro t ht w; cases ht; simp [upE]))); (case' dr10 => (intro w' hw' _; go_simp; with_reducible rfl)); (case' dh10 => (try simp only [Act.put, List.setIfInBounds_toArray, List.set_cons_zero, List.set_cons_succ])))
  refine head_nil ?_
  intro w6 hb _
  replace HB := hid (Grow.trans HB.out hb)
  replace P := hid (grow_block P.out hb)
  replace X := hid (grow_block X.out hb)
  replace HR := hid (grow_block HR.out hb)
  clear hb
  go_wp2_with (first | (refine opG_loadB rfl rfl rfl P.out Tryz.underlying54 rfl rfl ?_) | (refine opG_load1 rfl rfl rfl P.out rfl Tryz.underlying3 rfl ?_) | (refine op_loadId rfl rfl rfl X.out (HRT.out) ?_) |  (refine op_buildId rfl rfl ?_) | (refine op_storeId (l := keyOf b h root) rfl rfl rfl rfl rfl HR.out (by rfl) (HKL.out) ?_))
  intro wz hz _ hbz
  have HZ := hid hz; have HBZ := hid (hbz _ _ HB.out HRL.out)
  clear hz hbz
  go_wp2_with fail
  refine bodyPost_ret (ret_idt rfl rfl HZ.out (HKL.out)) rfl ⟨?_, HBZ.out⟩
  rfl
end Go.Proofs.YtabkaflccaklhaaGreat
