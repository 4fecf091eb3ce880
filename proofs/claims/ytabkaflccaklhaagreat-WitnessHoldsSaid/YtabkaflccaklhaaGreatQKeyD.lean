/- keytree.Climb, its reference; the reference's Fold: contracts. -/
import Derived.Test.YtabkaflccaklhaaGreatQKeyA
import Derived.Test.YtabkaflccaklhaaGreatQRowR
set_option linter.unusedSimpArgs false
set_option linter.unusedVariables false
namespace Go.Proofs.YtabkaflccaklhaaGreat
open Go.RowKit
open Go.Qk hiding rotr b4
set_option maxHeartbeats 1000000
set_option maxRecDepth 100000
theorem drop_step (xs : List IdK) (k : Nat) (h : k < xs.length) : xs.drop k = xs.getD k [] :: xs.drop (k + 1) := by
  rw [List.drop_eq_getElem_cons h]
  simp [h]
theorem ktClimb (leaf : Int) (L : Nat) (hL : max leaf 0 = (L : Int)) (hlm : leaf ≤ 9223372036854775807) (sum : IdK) (hs : sum.length = 32) (A : Option Addr) (n c : Nat) (way : List IdK) (w : World) (hx : IdRow w A way) (hn : way.length = n) (h32 : ∀ s ∈ way, s.length = 32) (hmax : n ≤ 1000000) :
    Calls Tryz.prog 104 #[.int .i64 leaf, idV sum, .slice A n c] w fun e w' => e = .returned (idV (climbTo L sum way)) ∧ Below w.heap.size w w' := by
  have LB := hid (show (L : Int) ≤ 9223372036854775807 by omega)
  have HX := hid hx
  have HS := hid hs
  have H32 := hid h32
  have HN := hid hn
  have HCL := hid (climbTo_length way L sum hs)
  clear hx hs h32 hn hlm
  go_enter Tryz.func104, Tryz.ntmps104
  have HB := hid (grow_refl w)
  apply wp_seq_k; intro _ _; apply wp_region_lit
  refine op_box (l := sum) rfl rfl rfl ?_
  intro g4 w1 hgl hgu hb hr
  have XL := hid (Nat.le_trans HB.out.size hgl)
  replace HB := hid (Grow.trans HB.out hb)
  have X := hid hr; have XU := hid hgu
  clear hr hgl hgu hb
  try simp only [Act.put, List.setIfInBounds_toArray, List.set_cons_zero, List.set_cons_succ]
  refine op_alloc rfl rfl ?_
  intro g6 w2 hgl hgu hb hr
  have HRG := hid hgl
  have HRL := hid (Nat.le_trans HB.out.size hgl)
  replace HB := hid (Grow.trans HB.out hb)
  replace X := hid (grow_block X.out hb)
  have HR := hid hr; have HRU := hid hgu
  clear hr hgl hgu hb
  try simp only [Act.put, List.setIfInBounds_toArray, List.set_cons_zero, List.set_cons_succ]
  have NE := hid (show g6 ≠ g4 by have := XU.out; have := HRG.out; omega)
  go_wp2_with fail
  clear hL
  have HE := hid (show climbTo L sum (way.drop 0) = climbTo L sum way from rfl)
  go_loopg [0, 13] (n + 1) (fun z v0 i wr => ∃ (k m : Nat) (cur : IdK), k ≤ n ∧ z = n + 1 - k ∧ v0 = .int .i64 (m : Int) ∧ i = .int .i64 (k : Int) ∧ Hid ((m : Int) ≤ 9223372036854775807) ∧ Hid (cur.length = 32) ∧ Hid (climbTo m cur (way.drop k) = climbTo L sum way) ∧ Hid (wr.heap[g4]? = some (.cells (u8s cur).toArray 42 (0, 0))) ∧ Hid (wr.heap[g6]? = some (.cells (u8s (zero8 32)).toArray 42 (0, 0))) ∧ Hid (Grow w wr))
  case atStart => exact ⟨0, L, sum, by omega, rfl, rfl, rfl, LB, HS, HE, X, HR, HB⟩
  case round =>
    clear HE X HR HB LB HS
    obtain ⟨k, m, cur, hk, hz, rfl, rfl, MB, CL, HE, X, HR, HB⟩ := hrel
    by_cases hlt : k < n
    · have k0 : (0 : Int) ≤ (k : Int) := by omega
      have k1 : (k : Int) < (n : Int) := by omega
      have m0 : (0 : Int) ≤ (m : Int) := by omega
      have m1 := MB.out
      have HDS := hid (drop_step way k (by rw [HN.out]; exact hlt))
      have S32 := hid (getD_mem_len H32.out (show k < way.length by rw [HN.out]; exact hlt))
      obtain ⟨ad, rfl, hc⟩ := (HX.out.grow HB.out).at_ k (by rw [HN.out]; exact hlt)
      have HC := hid hc
      clear hc
      generalize way.getD k [] = sd at *
      have HDV := hid (show ((m / 2 : Nat) : Int) = (m : Int) / 2 from rfl)
      by_cases hp : m % 2 = 1
      · have tp : ((m : Int) % 2 == 1) = true := by simp; omega
        have HE2 := hid (show climbTo (m / 2) (nd sd cur) (way.drop (k + 1)) = climbTo L sum way by rw [← HE.out, HDS.out, climbTo, if_pos hp])
        clear hp
        go_wp2_with (first | (refine op_loadAt (l := sd) rfl rfl rfl HC.out S32.out ?_) |  (refine op_allocstore (l := sd) rfl rfl rfl rfl rfl rfl (fun _ => rfl) ⟨fun _ => rfl, S32.out⟩ ?_))
        intro g8 w3 hgl hgu hb hr
        have H8L := hid (Nat.le_trans HB.out.size hgl)
        replace HB := hid (Grow.trans HB.out hb)
        replace X := hid (grow_block X.out hb)
        replace HR := hid (grow_block HR.out hb)
        have H8 := hid hr; have H8U := hid hgu
        clear hr hgl hgu hb
        try simp only [Act.put, List.setIfInBounds_toArray, List.set_cons_zero, List.set_cons_succ]
        go_wp2_with (first | (refine op_loadId rfl rfl rfl H8.out (S32.out) ?_) | (refine op_loadId rfl rfl rfl X.out (CL.out) ?_) |  fail)
        refine (ktNode sd cur S32.out CL.out _).mono ?_
        rintro e w4 ⟨rfl, hb⟩
        replace HB := hid (Grow.trans HB.out hb)
        replace X := hid (grow_block X.out hb)
        replace HR := hid (grow_block HR.out hb)
        replace H8 := hid (grow_block H8.out hb)
        clear hb
        go_wp2_with (refine op_storeId (l := nd sd cur) rfl rfl rfl rfl rfl X.out CL.out (nd_length _ _) ?_)
        intro w9 hz9 hgb hbl
        have HRz := hid (blk_other hgb HR.out NE.out)
        have HBz := hid (hbl _ _ HB.out XL.out)
        have Xz := hid hz9
        have ND := hid (nd_length sd cur)
        clear hz9 hgb hbl
        go_wp2_with fail
        go_roundg (n + 1 - (k + 1))
        case rel => exact ⟨k + 1, m / 2, nd sd cur, by omega, rfl, by rw [HDV.out], by go_num, hid (by omega), ND, HE2, Xz, HRz, HBz⟩
        case measure => omega
      · have tp : ((m : Int) % 2 == 1) = false := by simp; omega
        have HE2 := hid (show climbTo (m / 2) (nd cur sd) (way.drop (k + 1)) = climbTo L sum way by rw [← HE.out, HDS.out, climbTo, if_neg hp])
        clear hp
        go_wp2_with (first | (refine op_loadAt (l := sd) rfl rfl rfl HC.out S32.out ?_) | (refine op_loadId rfl rfl rfl X.out (CL.out) ?_) |  (refine op_allocstore (l := sd) rfl rfl rfl rfl rfl rfl (fun _ => rfl) ⟨fun _ => rfl, S32.out⟩ ?_))
        intro g8 w5 hgl hgu hb hr
        have H8L := hid (Nat.le_trans HB.out.size hgl)
        replace HB := hid (Grow.trans HB.out hb)
        replace X := hid (grow_block X.out hb)
        replace HR := hid (grow_block HR.out hb)
        have H8 := hid hr; have H8U := hid hgu
        clear hr hgl hgu hb
        try simp only [Act.put, List.setIfInBounds_toArray, List.set_cons_zero, List.set_cons_succ]
        go_wp2_with (first | (refine op_loadId rfl rfl rfl H8.out (S32.out) ?_) | (refine op_loadId rfl rfl rfl X.out (CL.out) ?_) |  fail)
        refine (ktNode cur sd CL.out S32.out _).mono ?_
        rintro e w6 ⟨rfl, hb⟩
        replace HB := hid (Grow.trans HB.out hb)
        replace X := hid (grow_block X.out hb)
        replace HR := hid (grow_block HR.out hb)
        replace H8 := hid (grow_block H8.out hb)
        clear hb
        go_wp2_with (refine op_storeId (l := nd cur sd) rfl rfl rfl rfl rfl X.out CL.out (nd_length _ _) ?_)
        intro w9 hz9 hgb hbl
        have HRz := hid (blk_other hgb HR.out NE.out)
        have HBz := hid (hbl _ _ HB.out XL.out)
        have Xz := hid hz9
        have ND := hid (nd_length cur sd)
        clear hz9 hgb hbl
        go_wp2_with fail
        go_roundg (n + 1 - (k + 1))
        case rel => exact ⟨k + 1, m / 2, nd cur sd, by omega, rfl, by rw [HDV.out], by go_num, hid (by omega), ND, HE2, Xz, HRz, HBz⟩
        case measure => omega
    · obtain rfl : k = n := by omega
      have hcur : cur = climbTo L sum way := by rw [← HE.out, ← HN.out, List.drop_length]; rfl
      clear HE
      subst hcur
      go_wp2_with (first | (refine op_loadId rfl rfl rfl X.out (HCL.out) ?_) |  (refine op_buildId rfl rfl ?_) | (refine op_storeId (l := climbTo L sum way) rfl rfl rfl rfl rfl HR.out (by rfl) (HCL.out) ?_))
      intro wz hz _ hbz
      have HZ := hid hz; have HBZ := hid (hbz _ _ HB.out HRL.out)
      clear hz hbz
      go_wp2_with fail
      refine bodyPost_ret (ret_id rfl rfl HZ.out (HCL.out)) rfl ⟨?_, HBZ.out⟩
      rfl
end Go.Proofs.YtabkaflccaklhaaGreat
