/- the reference's Climb: contracts. -/
import Derived.Test.YtabkaflccaklhaaGreatQKeyA
import Derived.Test.YtabkaflccaklhaaGreatQRowR
set_option linter.unusedSimpArgs false
set_option linter.unusedVariables false
namespace Go.Proofs.YtabkaflccaklhaaGreat
open Go.RowKit
open Go.Qk hiding rotr b4
set_option maxHeartbeats 1000000
set_option maxRecDepth 100000
theorem drop_step_ (xs : List IdK) (k : Nat) (h : k < xs.length) : xs.drop k = xs.getD k [] :: xs.drop (k + 1) := by
  rw [List.drop_eq_getElem_cons h]
  simp [h]
theorem refClimb7 (L : Nat) (hL : (L : Int) ≤ 9223372036854775807) (sum : IdK) (hs : sum.length = 32) (A : Option Addr) (n c : Nat) (way : List IdK) (w : World) (hx : IdRow w A way) (hn : way.length = n) (h32 : ∀ s ∈ way, s.length = 32) (hmax : n ≤ 1000000) :
    Calls Tryz.prog 75 #[.int .i64 (L : Int), idV sum, .slice A n c] w fun e w' => e = .returned (idV (climbTo L sum way)) ∧ Below w.heap.size w w' := by
  have LB := hid (show ((L : Nat) : Int) ≤ 9223372036854775807 by omega)
  have t0 : decide ((L : Int) < 0) = false := by simp
  have HX := hid hx
  have HS := hid hs
  have H32 := hid h32
  have HN := hid hn
  have HCL := hid (climbTo_length way L sum hs)
  clear hx hs h32 hn hL
  go_enter Tryz.func75, Tryz.ntmps75
  have HB := hid (grow_refl w)
  apply wp_seq_k; intro _ _; apply wp_region_lit
  refine op_box (l := sum) rfl rfl rfl ?_
  intro g4 w1 hgl hgu hb hr
  have XL := hid (Nat.le_trans HB.out.size hgl)
  replace HB := hid (Grow.trans HB.out hb)
  have X := hid hr; have XU := hid hgu
  clear hr hgl hgu hb
  try simp only [Act.put, List.setIfInBounds_toArray, List.set_cons_zero, List.set_cons_succ]
  refine op_alloc rfl rfl ?_
  intro g6 w2 hgl hgu hb hr
  have HRG := hid hgl
  have HRL := hid (Nat.le_trans HB.out.size hgl)
  replace HB := hid (Grow.trans HB.out hb)
  replace X := hid (grow_block X.out hb)
  have HR := hid hr; have HRU := hid hgu
  clear hr hgl hgu hb
  try simp only [Act.put, List.setIfInBounds_toArray, List.set_cons_zero, List.set_cons_succ]
  have NE := hid (show g6 ≠ g4 by have := XU.out; have := HRG.out; omega)
  try refine wpList_nil ?_
  go_wp2_with fail
  have HE := hid (show climbTo L sum (way.drop 0) = climbTo L sum way from rfl)
  go_loopg [0, 7] (n + 1) (fun z v0 i wr => ∃ (k m : Nat) (cur : IdK), k ≤ n ∧ z = n + 1 - k ∧ v0 = .int .i64 (m : Int) ∧ i = .int .i64 (k : Int) ∧ Hid ((m : Int) ≤ 9223372036854775807) ∧ Hid (cur.length = 32) ∧ Hid (climbTo m cur (way.drop k) = climbTo L sum way) ∧ Hid (wr.heap[g4]? = some (.cells (u8s cur).toArray 42 (0, 0))) ∧ Hid (wr.heap[g6]? = some (.cells (u8s (zero8 32)).toArray 42 (0, 0))) ∧ Hid (Grow w wr))
  case atStart => exact ⟨0, L, sum, by omega, rfl, rfl, rfl, LB, HS, HE, X, HR, HB⟩
  case round =>
    clear HE X HR HB LB HS
    obtain ⟨k, m, cur, hk, hz, rfl, rfl, MB, CL, HE, X, HR, HB⟩ := hrel
    by_cases hlt : k < n
    · have k0 : (0 : Int) ≤ (k : Int) := by omega
      have k1 : (k : Int) < (n : Int) := by omega
      have m0 : (0 : Int) ≤ (m : Int) := by omega
      have m1 := MB.out
      have HDS := hid (drop_step_ way k (by rw [HN.out]; exact hlt))
      have S32 := hid (getD_mem_len H32.out (show k < way.length by rw [HN.out]; exact hlt))
      obtain ⟨ad, rfl, hc⟩ := (HX.out.grow HB.out).at_ k (by rw [HN.out]; exact hlt)
      have HC := hid hc
      clear hc
      generalize way.getD k [] = sd at *
      have HDV := hid (show ((m / 2 : Nat) : Int) = (m : Int) / 2 from rfl)
      by_cases hp : m % 2 = 1
      · have tp : ((m : Int) % 2 == 1) = true := by simp; omega
        have HE2 := hid (show climbTo (m / 2) (nd sd cur) (way.drop (k + 1)) = climbTo L sum way by rw [← HE.out, HDS.out, climbTo, if_pos hp])
        clear hp
        go_wp2_with fail
        (refine' wp_region_head 6 1 [_, _, _, _, _, _] rfl (by kernel_rfl) (by kernel_rfl) ?hreg1; case' hreg1 => simp only [List.take_succ_cons, List.take_zero, List.zip_cons_cons, List.zip_nil_right, List.drop_succ_cons, List.drop_zero, List.drop_nil])
        (refine' head_val ?dw2 ?de2 ?dr2 ?dh2; (case' dw2 => rfl); (case' de2 => (first | exact fun _ _ _ => trivial | (intro t ht w; cases ht; simp [upE]))); (case' dr2 => (intro w' hw' _; go_simp; with_reducible rfl)); (case' dh2 => (try simp only [Act.put, List.setIfInBounds_toArray, List.set_cons_zero, List.set_cons_succ]))); (refine' head_val ?dw3 ?de3 ?dr3 ?dh3; (case' dw3 => rfl); (case' de3 => (first | exact fun _ _ _ => trivial | (intro t ht w; cases ht; simp [upE]))); (case' dr3 => (intro w' hw' _; go_simp; with_reducible rfl)); (case' dh3 => (try simp only [Act.put, List.setIfInBounds_toArray, List.set_cons_zero, List.set_cons_succ]))); (refine' head_val ?dw4 ?de4 ?dr4 ?dh4; (case' dw4 => rfl); (case' de4 => (first | exact fun _ _ _ => trivial | (intro t ht w; cases ht; simp [upE]))); (case' dr4 => (intro w' hw' _; go_simp; with_reducible rfl)); (case' dh4 => (try simp only [Act.put, List.setIfInBounds_toArray, List.set_cons_zero, List.set_cons_succ])))
        (refine' head_loadAt (x := _) rfl ?_ rfl rfl (HC.out) (S32.out) ?_; (first | exact fun _ _ _ => trivial | (intro t ht w; cases ht; simp [upE])); try simp only [Act.put, List.setIfInBounds_toArray, List.set_cons_zero, List.set_cons_succ])
        (refine' head_loadId (x := _) rfl ?_ rfl rfl X.out (CL.out) ?_; (first | exact fun _ _ _ => trivial | (intro t ht w; cases ht; simp [upE])); try simp only [Act.put, List.setIfInBounds_toArray, List.set_cons_zero, List.set_cons_succ])
        (refine' head_call ?cw5 ?ce5 ?cr5 ?cc5 ?ch5; (case' cw5 => rfl); (case' ce5 => (first | exact fun _ _ _ => trivial | (intro t ht w; cases ht; simp [upE]))); (case' cr5 => (intro w'; go_simp; first | exact ⟨rfl, rfl⟩ | with_reducible rfl)); (case' cc5 => (intro w' hw' _; exact refPair nodeName sd cur S32.out CL.out (by decide) w')); (case' ch5 => (try simp only [Act.put, List.setIfInBounds_toArray, List.set_cons_zero, List.set_cons_succ])))
        refine head_nil ?_
        intro w3 hb _
        replace HB := hid (Grow.trans HB.out hb)
        replace X := hid (grow_block X.out hb)
        replace HR := hid (grow_block HR.out hb)
        clear hb
        go_wp2_with (refine op_storeId (l := nd sd cur) rfl rfl rfl rfl rfl X.out CL.out (nd_length _ _) ?_)
        intro w9 hz9 hgb hbl
        have HRz := hid (blk_other hgb HR.out NE.out)
        have HBz := hid (hbl _ _ HB.out XL.out)
        have Xz := hid hz9
        have ND := hid (nd_length sd cur)
        clear hz9 hgb hbl
        go_wp2_with fail
        go_roundg (n + 1 - (k + 1))
        case rel => exact ⟨k + 1, m / 2, nd sd cur, by omega, rfl, by rw [HDV.out], by go_num, hid (by omega), ND, HE2, Xz, HRz, HBz⟩
        case measure => omega
      · have tp : ((m : Int) % 2 == 1) = false := by simp; omega
        have HE2 := hid (show climbTo (m / 2) (nd cur sd) (way.drop (k + 1)) = climbTo L sum way by rw [← HE.out, HDS.out, climbTo, if_neg hp])
        clear hp
        go_wp2_with fail
        (refine' wp_region_head 6 1 [_, _, _, _, _, _] rfl (by kernel_rfl) (by kernel_rfl) ?hreg6; case' hreg6 => simp only [List.take_succ_cons, List.take_zero, List.zip_cons_cons, List.zip_nil_right, List.drop_succ_cons, List.drop_zero, List.drop_nil])
        (refine' head_loadId (x := _) rfl ?_ rfl rfl X.out (CL.out) ?_; (first | exact fun _ _ _ => trivial | (intro t ht w; cases ht; simp [upE])); try simp only [Act.put, List.setIfInBounds_toArray, List.set_cons_zero, List.set_cons_succ])
        (refine' head_val ?dw7 ?de7 ?dr7 ?dh7; (case' dw7 => rfl); (case' de7 => (first | exact fun _ _ _ => trivial | (intro t ht w; cases ht; simp [upE]))); (case' dr7 => (intro w' hw' _; go_simp; with_reducible rfl)); (case' dh7 => (try simp only [Act.put, List.setIfInBounds_toArray, List.set_cons_zero, List.set_cons_succ]))); (refine' head_val ?dw8 ?de8 ?dr8 ?dh8; (case' dw8 => rfl); (case' de8 => (first | exact fun _ _ _ => trivial | (intro t ht w; cases ht; simp [upE]))); (case' dr8 => (intro w' hw' _; go_simp; with_reducible rfl)); (case' dh8 => (try simp only [Act.put, List.setIfInBounds_toArray, List.set_cons_zero, List.set_cons_succ]))); (refine' head_val ?dw9 ?de9 ?dr9 ?dh9; (case' dw9 => rfl); (case' de9 => (first | exact fun _ _ _ => trivial | (intro t ht w; cases ht; simp [upE]))); (case' dr9 => (intro w' hw' _; go_simp; with_reducible rfl)); (case' dh9 => (try simp only [Act.put, List.setIfInBounds_toArray, List.set_cons_zero, List.set_cons_succ])))
        (refine' head_loadAt (x := _) rfl ?_ rfl rfl (HC.out) (S32.out) ?_; (first | exact fun _ _ _ => trivial | (intro t ht w; cases ht; simp [upE])); try simp only [Act.put, List.setIfInBounds_toArray, List.set_cons_zero, List.set_cons_succ])
        (refine' head_call ?cw10 ?ce10 ?cr10 ?cc10 ?ch10; (case' cw10 => rfl); (case' ce10 => (first | exact fun _ _ _ => trivial | (intro t ht w; cases ht; simp [upE]))); (case' cr10 => (intro w'; go_simp; first | exact ⟨rfl, rfl⟩ | with_reducible rfl)); (case' cc10 => (intro w' hw' _; exact refPair nodeName cur sd CL.out S32.out (by decide) w')); (case' ch10 => (try simp only [Act.put, List.setIfInBounds_toArray, List.set_cons_zero, List.set_cons_succ])))
        refine head_nil ?_
        intro w4 hb _
        replace HB := hid (Grow.trans HB.out hb)
        replace X := hid (grow_block X.out hb)
        replace HR := hid (grow_block HR.out hb)
        clear hb
        go_wp2_with (refine op_storeId (l := nd cur sd) rfl rfl rfl rfl rfl X.out CL.out (nd_length _ _) ?_)
        intro w9 hz9 hgb hbl
        have HRz := hid (blk_other hgb HR.out NE.out)
        have HBz := hid (hbl _ _ HB.out XL.out)
        have Xz := hid hz9
        have ND := hid (nd_length cur sd)
        clear hz9 hgb hbl
        go_wp2_with fail
        go_roundg (n + 1 - (k + 1))
        case rel => exact ⟨k + 1, m / 2, nd cur sd, by omega, rfl, by rw [HDV.out], by go_num, hid (by omega), ND, HE2, Xz, HRz, HBz⟩
        case measure => omega
    · obtain rfl : k = n := by omega
      have hcur : cur = climbTo L sum way := by rw [← HE.out, ← HN.out, List.drop_length]; rfl
      clear HE
      subst hcur
      go_wp2_with (first | (refine op_loadId rfl rfl rfl X.out (HCL.out) ?_) |  (refine op_buildId rfl rfl ?_) | (refine op_storeId (l := climbTo L sum way) rfl rfl rfl rfl rfl HR.out (by rfl) (HCL.out) ?_))
      intro wz hz _ hbz
      have HZ := hid hz; have HBZ := hid (hbz _ _ HB.out HRL.out)
      clear hz hbz
      go_wp2_with fail
      refine bodyPost_ret (ret_id rfl rfl HZ.out (HCL.out)) rfl ⟨?_, HBZ.out⟩
      rfl
theorem refClimb7_neg (leaf : Int) (hneg : leaf < 0) (sum : IdK) (hs : sum.length = 32) (A : Option Addr) (n c : Nat) (way : List IdK) (w : World) (hx : IdRow w A way) (hn : way.length = n) (h32 : ∀ s ∈ way, s.length = 32) (hmax : n ≤ 1000000) :
    Calls Tryz.prog 75 #[.int .i64 leaf, idV sum, .slice A n c] w fun e w' => e = .returned (idV (climbTo 0 sum way)) ∧ Below w.heap.size w w' := by
  have LB := hid (show ((0 : Nat) : Int) ≤ 9223372036854775807 by omega)
  have t0 : decide (leaf < 0) = true := by simpa using hneg
  have HX := hid hx
  have HS := hid hs
  have H32 := hid h32
  have HN := hid hn
  have HCL := hid (climbTo_length way 0 sum hs)
  clear hx hs h32 hn hneg
  go_enter Tryz.func75, Tryz.ntmps75
  have HB := hid (grow_refl w)
  apply wp_seq_k; intro _ _; apply wp_region_lit
  refine op_box (l := sum) rfl rfl rfl ?_
  intro g4 w1 hgl hgu hb hr
  have XL := hid (Nat.le_trans HB.out.size hgl)
  replace HB := hid (Grow.trans HB.out hb)
  have X := hid hr; have XU := hid hgu
  clear hr hgl hgu hb
  try simp only [Act.put, List.setIfInBounds_toArray, List.set_cons_zero, List.set_cons_succ]
  refine op_alloc rfl rfl ?_
  intro g6 w2 hgl hgu hb hr
  have HRG := hid hgl
  have HRL := hid (Nat.le_trans HB.out.size hgl)
  replace HB := hid (Grow.trans HB.out hb)
  replace X := hid (grow_block X.out hb)
  have HR := hid hr; have HRU := hid hgu
  clear hr hgl hgu hb
  try simp only [Act.put, List.setIfInBounds_toArray, List.set_cons_zero, List.set_cons_succ]
  have NE := hid (show g6 ≠ g4 by have := XU.out; have := HRG.out; omega)
  try refine wpList_nil ?_
  go_wp2_with fail
  have HE := hid (show climbTo 0 sum (way.drop 0) = climbTo 0 sum way from rfl)
  go_loopg [0, 7] (n + 1) (fun z v0 i wr => ∃ (k m : Nat) (cur : IdK), k ≤ n ∧ z = n + 1 - k ∧ v0 = .int .i64 (m : Int) ∧ i = .int .i64 (k : Int) ∧ Hid ((m : Int) ≤ 9223372036854775807) ∧ Hid (cur.length = 32) ∧ Hid (climbTo m cur (way.drop k) = climbTo 0 sum way) ∧ Hid (wr.heap[g4]? = some (.cells (u8s cur).toArray 42 (0, 0))) ∧ Hid (wr.heap[g6]? = some (.cells (u8s (zero8 32)).toArray 42 (0, 0))) ∧ Hid (Grow w wr))
  case atStart => exact ⟨0, 0, sum, by omega, rfl, rfl, rfl, LB, HS, HE, X, HR, HB⟩
  case round =>
    clear HE X HR HB LB HS
    obtain ⟨k, m, cur, hk, hz, rfl, rfl, MB, CL, HE, X, HR, HB⟩ := hrel
    by_cases hlt : k < n
    · have k0 : (0 : Int) ≤ (k : Int) := by omega
      have k1 : (k : Int) < (n : Int) := by omega
      have m0 : (0 : Int) ≤ (m : Int) := by omega
      have m1 := MB.out
      have HDS := hid (drop_step_ way k (by rw [HN.out]; exact hlt))
      have S32 := hid (getD_mem_len H32.out (show k < way.length by rw [HN.out]; exact hlt))
      obtain ⟨ad, rfl, hc⟩ := (HX.out.grow HB.out).at_ k (by rw [HN.out]; exact hlt)
      have HC := hid hc
      clear hc
      generalize way.getD k [] = sd at *
      have HDV := hid (show ((m / 2 : Nat) : Int) = (m : Int) / 2 from rfl)
      by_cases hp : m % 2 = 1
      · have tp : ((m : Int) % 2 == 1) = true := by simp; omega
        have HE2 := hid (show climbTo (m / 2) (nd sd cur) (way.drop (k + 1)) = climbTo 0 sum way by rw [← HE.out, HDS.out, climbTo, if_pos hp])
        clear hp
        go_wp2_with fail
        (refine' wp_region_head 6 1 [_, _, _, _, _, _] rfl (by kernel_rfl) (by kernel_rfl) ?hreg11; case' hreg11 => simp only [List.take_succ_cons, List.take_zero, List.zip_cons_cons, List.zip_nil_right, List.drop_succ_cons, List.drop_zero, List.drop_nil])
        (refine' head_val ?dw12 ?de12 ?dr12 ?dh12; (case' dw12 => rfl); (case' de12 => (first | exact fun _ _ _ => trivial | (intro t ht w; cases ht; simp [upE]))); (case' dr12 => (intro w' hw' _; go_simp; with_reducible rfl)); (case' dh12 => (try simp only [Act.put, List.setIfInBounds_toArray, List.set_cons_zero, List.set_cons_succ]))); (refine' head_val ?dw13 ?de13 ?dr13 ?dh13; (case' dw13 => rfl); (case' de13 => (first | exact fun _ _ _ => trivial | (intro t ht w; cases ht; simp [upE]))); (case' dr13 => (intro w' hw' _; go_simp; with_reducible rfl)); (case' dh13 => (try simp only [Act.put, List.setIfInBounds_toArray, List.set_cons_zero, List.set_cons_succ]))); (refine' head_val ?dw14 ?de14 ?dr14 ?dh14; (case' dw14 => rfl); (case' de14 => (first | exact fun _ _ _ => trivial | (intro t ht w; cases ht; simp [upE]))); (case' dr14 => (intro w' hw' _; go_simp; with_reducible rfl)); (case' dh14 => (try simp only [Act.put, List.setIfInBounds_toArray, List.set_cons_zero, List.set_cons_succ])))
        (refine' head_loadAt (x := _) rfl ?_ rfl rfl (HC.out) (S32.out) ?_; (first | exact fun _ _ _ => trivial | (intro t ht w; cases ht; simp [upE])); try simp only [Act.put, List.setIfInBounds_toArray, List.set_cons_zero, List.set_cons_succ])
        (refine' head_loadId (x := _) rfl ?_ rfl rfl X.out (CL.out) ?_; (first | exact fun _ _ _ => trivial | (intro t ht w; cases ht; simp [upE])); try simp only [Act.put, List.setIfInBounds_toArray, List.set_cons_zero, List.set_cons_succ])
        (refine' head_call ?cw15 ?ce15 ?cr15 ?cc15 ?ch15; (case' cw15 => rfl); (case' ce15 => (first | exact fun _ _ _ => trivial | (intro t ht w; cases ht; simp [upE]))); (case' cr15 => (intro w'; go_simp; first | exact ⟨rfl, rfl⟩ | with_reducible rfl)); (case' cc15 => (intro w' hw' _; exact refPair nodeName sd cur S32.out CL.out (by decide) w')); (case' ch15 => (try simp only [Act.put, List.setIfInBounds_toArray, List.set_cons_zero, List.set_cons_succ])))
        refine head_nil ?_
        intro w3 hb _
        replace HB := hid (Grow.trans HB.out hb)
        replace X := hid (grow_block X.out hb)
        replace HR := hid (grow_block HR.out hb)
        clear hb
        go_wp2_with (refine op_storeId (l := nd sd cur) rfl rfl rfl rfl rfl X.out CL.out (nd_length _ _) ?_)
        intro w9 hz9 hgb hbl
        have HRz := hid (blk_other hgb HR.out NE.out)
        have HBz := hid (hbl _ _ HB.out XL.out)
        have Xz := hid hz9
        have ND := hid (nd_length sd cur)
        clear hz9 hgb hbl
        go_wp2_with fail
        go_roundg (n + 1 - (k + 1))
        case rel => exact ⟨k + 1, m / 2, nd sd cur, by omega, rfl, by rw [HDV.out], by go_num, hid (by omega), ND, HE2, Xz, HRz, HBz⟩
        case measure => omega
      · have tp : ((m : Int) % 2 == 1) = false := by simp; omega
        have HE2 := hid (show climbTo (m / 2) (nd cur sd) (way.drop (k + 1)) = climbTo 0 sum way by rw [← HE.out, HDS.out, climbTo, if_neg hp])
        clear hp
        go_wp2_with fail
        (refine' wp_region_head 6 1 [_, _, _, _, _, _] rfl (by kernel_rfl) (by kernel_rfl) ?hreg16; case' hreg16 => simp only [List.take_succ_cons, List.take_zero, List.zip_cons_cons, List.zip_nil_right, List.drop_succ_cons, List.drop_zero, List.drop_nil])
        (refine' head_loadId (x := _) rfl ?_ rfl rfl X.out (CL.out) ?_; (first | exact fun _ _ _ => trivial | (intro t ht w; cases ht; simp [upE])); try simp only [Act.put, List.setIfInBounds_toArray, List.set_cons_zero, List.set_cons_succ])
        (refine' head_val ?dw17 ?de17 ?dr17 ?dh17; (case' dw17 => rfl); (case' de17 => (first | exact fun _ _ _ => trivial | (intro t ht w; cases ht; simp [upE]))); (case' dr17 => (intro w' hw' _; go_simp; with_reducible rfl)); (case' dh17 => (try simp only [Act.put, List.setIfInBounds_toArray, List.set_cons_zero, List.set_cons_succ]))); (refine' head_val ?dw18 ?de18 ?dr18 ?dh18; (case' dw18 => rfl); (case' de18 => (first | exact fun _ _ _ => trivial | (intro t ht w; cases ht; simp [upE]))); (case' dr18 => (intro w' hw' _; go_simp; with_reducible rfl)); (case' dh18 => (try simp only [Act.put, List.setIfInBounds_toArray, List.set_cons_zero, List.set_cons_succ]))); (refine' head_val ?dw19 ?de19 ?dr19 ?dh19; (case' dw19 => rfl); (case' de19 => (first | exact fun _ _ _ => trivial | (intro t ht w; cases ht; simp [upE]))); (case' dr19 => (intro w' hw' _; go_simp; with_reducible rfl)); (case' dh19 => (try simp only [Act.put, List.setIfInBounds_toArray, List.set_cons_zero, List.set_cons_succ])))
        (refine' head_loadAt (x := _) rfl ?_ rfl rfl (HC.out) (S32.out) ?_; (first | exact fun _ _ _ => trivial | (intro t ht w; cases ht; simp [upE])); try simp only [Act.put, List.setIfInBounds_toArray, List.set_cons_zero, List.set_cons_succ])
        (refine' head_call ?cw20 ?ce20 ?cr20 ?cc20 ?ch20; (case' cw20 => rfl); (case' ce20 => (first | exact fun _ _ _ => trivial | (intro t ht w; cases ht; simp [upE]))); (case' cr20 => (intro w'; go_simp; first | exact ⟨rfl, rfl⟩ | with_reducible rfl)); (case' cc20 => (intro w' hw' _; exact refPair nodeName cur sd CL.out S32.out (by decide) w')); (case' ch20 => (try simp only [Act.put, List.setIfInBounds_toArray, List.set_cons_zero, List.set_cons_succ])))
        refine head_nil ?_
        intro w4 hb _
        replace HB := hid (Grow.trans HB.out hb)
        replace X := hid (grow_block X.out hb)
        replace HR := hid (grow_block HR.out hb)
        clear hb
        go_wp2_with (refine op_storeId (l := nd cur sd) rfl rfl rfl rfl rfl X.out CL.out (nd_length _ _) ?_)
        intro w9 hz9 hgb hbl
        have HRz := hid (blk_other hgb HR.out NE.out)
        have HBz := hid (hbl _ _ HB.out XL.out)
        have Xz := hid hz9
        have ND := hid (nd_length cur sd)
        clear hz9 hgb hbl
        go_wp2_with fail
        go_roundg (n + 1 - (k + 1))
        case rel => exact ⟨k + 1, m / 2, nd cur sd, by omega, rfl, by rw [HDV.out], by go_num, hid (by omega), ND, HE2, Xz, HRz, HBz⟩
        case measure => omega
    · obtain rfl : k = n := by omega
      have hcur : cur = climbTo 0 sum way := by rw [← HE.out, ← HN.out, List.drop_length]; rfl
      clear HE
      subst hcur
      go_wp2_with (first | (refine op_loadId rfl rfl rfl X.out (HCL.out) ?_) |  (refine op_buildId rfl rfl ?_) | (refine op_storeId (l := climbTo 0 sum way) rfl rfl rfl rfl rfl HR.out (by rfl) (HCL.out) ?_))
      intro wz hz _ hbz
      have HZ := hid hz; have HBZ := hid (hbz _ _ HB.out HRL.out)
      clear hz hbz
      go_wp2_with fail
      refine bodyPost_ret (ret_id rfl rfl HZ.out (HCL.out)) rfl ⟨?_, HBZ.out⟩
      rfl
end Go.Proofs.YtabkaflccaklhaaGreat
