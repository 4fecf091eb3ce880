/- quitclaimref12.row and Table: contracts. -/
import Derived.Test.YtkbapegohodcgaaQDifH
set_option linter.unusedSimpArgs false
set_option linter.unusedVariables false
namespace Go.Proofs.Ytkbapegohodcgaa
open Go.RowKit
open Go.Qk hiding rotr b4
set_option maxHeartbeats 4000000
set_option maxRecDepth 100000
def valW (x : ByteArray) (xs ys : List ByteArray) (q b : Nat) : Nat := if q ≤ b then Dif.kAt (x :: xs) ys 0 b else 0
theorem valW_step (x : ByteArray) (xs ys : List ByteArray) (q b : Nat) : (if b = q then Dif.kAt (x :: xs) ys 0 q else valW x xs ys (q + 1) b) = valW x xs ys q b := by
  unfold valW
  by_cases e : b = q
  · subst e; simp
  · rw [if_neg e]
    by_cases e2 : q + 1 ≤ b
    · rw [if_pos e2, if_pos (by omega)]
    · rw [if_neg e2, if_neg (by omega)]
theorem kAt_cons (x : ByteArray) (xs ys : List ByteArray) (a b : Nat) : Dif.kAt (x :: xs) ys (a + 1) b = Dif.kAt xs ys a b := rfl
theorem rowV_setL (V : Nat → Nat) (m b v : Nat) : (rowV V m).set b (.int .i64 (v : Int)) = rowV (fun y => if y = b then v else V y) m := by
  have h := rowV_set V m b v
  have h2 := congrArg Array.toList h
  rw [Array.toList_setIfInBounds] at h2
  exact h2
theorem rowStore {W : World} {g : Nat} {V : Nat → Nat} {m q v : Nat} {z : Int} (hW : W.heap[g]? = some (.cells ((rowV V m).set q (.int .i64 z)).toArray 3 (0, 0))) (hz : z = (v : Int)) : W.heap[g]? = some (.cells (rowV (fun y => if y = q then v else V y) m).toArray 3 (0, 0)) := by
  rw [hW, hz, rowV_setL]
theorem rowStoreA {W : World} {g : Nat} {V : Nat → Nat} {m q v : Nat} {z : Int} (hW : W.heap[g]? = some (.cells ((rowV V m).toArray.setIfInBounds q (.int .i64 z)) 3 (0, 0))) (hz : z = (v : Int)) : W.heap[g]? = some (.cells (rowV (fun y => if y = q then v else V y) m).toArray 3 (0, 0)) := by
  rw [hW, hz, rowV_set]
theorem refRow12 (x : ByteArray) (gn : Nat) (B : Option Addr) (m d : Nat) (xs ys : List ByteArray) (w : World) (hy : StrRow w B ys) (hm : ys.length = m) (hnx : w.heap[gn]? = some (.cells (rowV (Dif.kAt xs ys 0) (m + 1)).toArray 3 (0, 0))) (hx1 : xs.length ≤ 1000) (hm1 : m ≤ 1000) :
    Calls Try.prog 99 #[.string x, .slice (some ⟨gn, 0, none⟩) (m + 1) (m + 1), .slice B m d] w fun e w' => ∃ g, e = .returned (.slice (some ⟨g, 0, none⟩) (m + 1) (m + 1)) ∧ w'.heap[g]? = some (.cells (rowV (Dif.kAt (x :: xs) ys 0) (m + 1)).toArray 3 (0, 0)) ∧ w.heap.size ≤ g ∧ Below w.heap.size w w' := by
  have HY := hid hy
  have HM := hid hm
  have HNX := hid hnx
  have HX1 := hid hx1
  have m0 : (0 : Int) ≤ (m : Int) := by omega
  have m1 : (m : Int) ≤ 1000 := by omega
  clear hy hm hnx hx1
  go_enter Try.func99, Try.ntmps99
  have HB := hid (grow_refl w)
  go_wp2_with (first | (refine op_makeN (n := m + 1) rfl rfl rfl rfl Try.underlying73 infoInt1 rfl rfl (by decide) (by omega) (by omega) ?_) | fail)
  intro g w1 hgl hgu hb hr
  have HG := hid (show w1.heap[g]? = some (.cells (rowV (valW x xs ys m) (m + 1)).toArray 3 (0, 0)) by
    rw [hr]
    exact congrArg (fun x => some (Obj.cells x _ _)) (arr_rep (m + 1) _ _ (fun i hi => by
      unfold valW
      by_cases e : m ≤ i
      · rw [if_pos e, Dif.kAt_end_r _ _ _ _ (by rw [HM.out]; exact e)]; rfl
      · rw [if_neg e]; rfl)))
  have HGL := hid hgl
  have HB1 := hid hb
  clear hgl hgu hb hr HB
  go_wp2_with fail
  go_loopg [8] (m + 1) (fun z i wr => ∃ p : Nat, p ≤ m ∧ z = p + 1 ∧ i = .int .i64 ((p : Int) - 1) ∧ Hid (wr.heap[g]? = some (.cells (rowV (valW x xs ys p) (m + 1)).toArray 3 (0, 0))) ∧ Hid (Below w.heap.size w wr))
  case atStart => exact ⟨m, by omega, by omega, rfl, HG, HB1⟩
  case round =>
    clear HG HB1
    obtain ⟨p, hp, hz, rfl, HG, HB⟩ := hrel
    cases p with
    | zero =>
      go_wp2_with fail
      go_ret
      exact ⟨g, rfl, by rw [HG.out]; exact congrArg (fun l => some (Obj.cells (List.toArray l) _ _)) (List.map_congr_left fun b _ => by unfold valW; simp), HGL.out, HB.out⟩
    | succ q =>
      rw [show (((q + 1 : Nat) : Int) - 1) = (q : Int) by omega]
      have q0 : (0 : Int) ≤ (q : Int) := by omega
      have q1 : (q : Int) < (m : Int) := by omega
      have q2 : (q : Int) < (m : Int) + 1 := by omega
      have q3 : (q : Int) + 1 < (m : Int) + 1 := by omega
      have q4 : (0 : Int) ≤ (q : Int) + 1 := by omega
      have wq : IntKind.i64.wrap ((q : Int) + 1) = (q : Int) + 1 := by simp [IntKind.wrap, IntKind.signed, IntKind.bits]; omega
      have tq : ((q : Int) + 1).toNat = q + 1 := by omega
      have HKS := hid (Dif.kAt_step ByteArray.empty (x :: xs) ys 0 q (by simp) (by rw [HM.out]; omega))
      have hd0 : (x :: xs).getD 0 ByteArray.empty = x := rfl
      rw [hd0] at HKS
      have HNW := hid (show wr.heap[gn]? = some (.cells (rowV (Dif.kAt xs ys 0) (m + 1)).toArray 3 (0, 0)) from grow_block HNX.out HB.out)
      have y0 : wr.cell? ⟨gn, q, none⟩ = some (.int .i64 (Dif.kAt (x :: xs) ys 1 q : Int)) := blk_cell HNW.out (by rw [kAt_cons]; simp [rowV, show q < m + 1 by omega])
      have y1 : wr.cell? ⟨gn, q + 1, none⟩ = some (.int .i64 (Dif.kAt (x :: xs) ys 1 (q + 1) : Int)) := blk_cell HNW.out (by rw [kAt_cons]; simp [rowV, show q + 1 < m + 1 by omega])
      have y2 : wr.cell? ⟨g, q + 1, none⟩ = some (.int .i64 (Dif.kAt (x :: xs) ys 0 (q + 1) : Int)) := blk_cell HG.out (by simp [rowV, valW, show q + 1 < m + 1 by omega])
      have k1 : Dif.kAt (x :: xs) ys 1 (q + 1) ≤ 1000 := Nat.le_trans (by rw [kAt_cons]; exact kAt_le xs ys 0 (q + 1)) HX1.out
      obtain ⟨ad, rfl, hc⟩ := (HY.out.grow HB.out).at_ q (by rw [HM.out]; omega)
      have HC := hid hc
      clear HNW hc hd0
      generalize ys.getD q ByteArray.empty = y at *
      generalize Dif.kAt (x :: xs) ys 1 q = a1 at *
      generalize Dif.kAt (x :: xs) ys 1 (q + 1) = a2 at *
      generalize ha3 : Dif.kAt (x :: xs) ys 0 (q + 1) = a3 at *
      clear ha3
      have wk : IntKind.i64.wrap ((a2 : Int) + 1) = (a2 : Int) + 1 := by simp [IntKind.wrap, IntKind.signed, IntKind.bits]; omega
      have hcell : wr.cell? (ad.add q) = some (.string y) := HC.out
      clear HC
      by_cases hxy : x = y
      · have heq : (x.toList == y.toList) = true := by rw [hxy]; simp
        have HXY := hid hxy
        clear hxy
        by_cases h13 : a1 < a3
        · have h13' : (a1 : Int) < (a3 : Int) := by omega
          by_cases h32 : a3 < a2 + 1
          · have h32' : (a3 : Int) < (a2 : Int) + 1 := by omega
            have HV2 := hid (show (a2 + 1 : Nat) = Dif.kAt (x :: xs) ys 0 q by rw [HKS.out]; first | (rw [if_pos (HXY.out)]; omega) | (rw [if_neg (HXY.out)]; omega))
            go_wp2_with (first | (refine op_store1 (g := g) (i := q) (v := .int .i64 ((a2 + 1 : Nat) : Int)) rfl rfl rfl rfl (by first | rfl | (go_simp; done) | (go_simp; rfl) | simp) HG.out rfl rfl infoIntS (by simp [rowV]; omega) ?_) | fail)
            intro w5 hW hgr hbel
            have HG5 := hid (show w5.heap[g]? = some (.cells (rowV (valW x xs ys q) (m + 1)).toArray 3 (0, 0)) by rw [show w5.heap[g]? = _ from (by first | exact rowStore (v := (a2 + 1 : Nat)) hW (by omega) | exact rowStoreA (v := (a2 + 1 : Nat)) hW (by omega) : w5.heap[g]? = some (.cells (rowV (fun y => if y = q then (a2 + 1 : Nat) else valW x xs ys (q + 1) y) (m + 1)).toArray 3 (0, 0)))]; exact congrArg (fun l => some (Obj.cells (List.toArray l) _ _)) (List.map_congr_left fun b _ => by rw [HV2.out]; exact congrArg (fun n : Nat => Value.int .i64 (n : Int)) (valW_step x xs ys q b)))
            have HB5 := hid (hbel _ _ HB.out HGL.out)
            clear hW hgr hbel HG HB HV2
            go_wp2_with fail
            go_roundg (q + 1)
            case rel => exact ⟨q, by omega, rfl, by go_num, HG5, HB5⟩
            case measure => omega
          · have h32' : ¬ (a3 : Int) < (a2 : Int) + 1 := by omega
            have HV2 := hid (show a3 = Dif.kAt (x :: xs) ys 0 q by rw [HKS.out]; first | (rw [if_pos (HXY.out)]; omega) | (rw [if_neg (HXY.out)]; omega))
            go_wp2_with (first | (refine op_store1 (g := g) (i := q) (v := .int .i64 (a3 : Int)) rfl rfl rfl rfl (by first | rfl | (go_simp; done) | (go_simp; rfl) | simp) HG.out rfl rfl infoIntS (by simp [rowV]; omega) ?_) | fail)
            intro w5 hW hgr hbel
            have HG5 := hid (show w5.heap[g]? = some (.cells (rowV (valW x xs ys q) (m + 1)).toArray 3 (0, 0)) by rw [show w5.heap[g]? = _ from (by first | exact rowStore (v := a3) hW (by omega) | exact rowStoreA (v := a3) hW (by omega) : w5.heap[g]? = some (.cells (rowV (fun y => if y = q then a3 else valW x xs ys (q + 1) y) (m + 1)).toArray 3 (0, 0)))]; exact congrArg (fun l => some (Obj.cells (List.toArray l) _ _)) (List.map_congr_left fun b _ => by rw [HV2.out]; exact congrArg (fun n : Nat => Value.int .i64 (n : Int)) (valW_step x xs ys q b)))
            have HB5 := hid (hbel _ _ HB.out HGL.out)
            clear hW hgr hbel HG HB HV2
            go_wp2_with fail
            go_roundg (q + 1)
            case rel => exact ⟨q, by omega, rfl, by go_num, HG5, HB5⟩
            case measure => omega
        · have h13' : ¬ (a1 : Int) < (a3 : Int) := by omega
          by_cases h12 : a1 < a2 + 1
          · have h12' : (a1 : Int) < (a2 : Int) + 1 := by omega
            have HV2 := hid (show (a2 + 1 : Nat) = Dif.kAt (x :: xs) ys 0 q by rw [HKS.out]; first | (rw [if_pos (HXY.out)]; omega) | (rw [if_neg (HXY.out)]; omega))
            go_wp2_with (first | (refine op_store1 (g := g) (i := q) (v := .int .i64 ((a2 + 1 : Nat) : Int)) rfl rfl rfl rfl (by first | rfl | (go_simp; done) | (go_simp; rfl) | simp) HG.out rfl rfl infoIntS (by simp [rowV]; omega) ?_) | fail)
            intro w5 hW hgr hbel
            have HG5 := hid (show w5.heap[g]? = some (.cells (rowV (valW x xs ys q) (m + 1)).toArray 3 (0, 0)) by rw [show w5.heap[g]? = _ from (by first | exact rowStore (v := (a2 + 1 : Nat)) hW (by omega) | exact rowStoreA (v := (a2 + 1 : Nat)) hW (by omega) : w5.heap[g]? = some (.cells (rowV (fun y => if y = q then (a2 + 1 : Nat) else valW x xs ys (q + 1) y) (m + 1)).toArray 3 (0, 0)))]; exact congrArg (fun l => some (Obj.cells (List.toArray l) _ _)) (List.map_congr_left fun b _ => by rw [HV2.out]; exact congrArg (fun n : Nat => Value.int .i64 (n : Int)) (valW_step x xs ys q b)))
            have HB5 := hid (hbel _ _ HB.out HGL.out)
            clear hW hgr hbel HG HB HV2
            go_wp2_with fail
            go_roundg (q + 1)
            case rel => exact ⟨q, by omega, rfl, by go_num, HG5, HB5⟩
            case measure => omega
          · have h12' : ¬ (a1 : Int) < (a2 : Int) + 1 := by omega
            have HV2 := hid (show a1 = Dif.kAt (x :: xs) ys 0 q by rw [HKS.out]; first | (rw [if_pos (HXY.out)]; omega) | (rw [if_neg (HXY.out)]; omega))
            go_wp2_with (first | (refine op_store1 (g := g) (i := q) (v := .int .i64 (a1 : Int)) rfl rfl rfl rfl (by first | rfl | (go_simp; done) | (go_simp; rfl) | simp) HG.out rfl rfl infoIntS (by simp [rowV]; omega) ?_) | fail)
            intro w5 hW hgr hbel
            have HG5 := hid (show w5.heap[g]? = some (.cells (rowV (valW x xs ys q) (m + 1)).toArray 3 (0, 0)) by rw [show w5.heap[g]? = _ from (by first | exact rowStore (v := a1) hW (by omega) | exact rowStoreA (v := a1) hW (by omega) : w5.heap[g]? = some (.cells (rowV (fun y => if y = q then a1 else valW x xs ys (q + 1) y) (m + 1)).toArray 3 (0, 0)))]; exact congrArg (fun l => some (Obj.cells (List.toArray l) _ _)) (List.map_congr_left fun b _ => by rw [HV2.out]; exact congrArg (fun n : Nat => Value.int .i64 (n : Int)) (valW_step x xs ys q b)))
            have HB5 := hid (hbel _ _ HB.out HGL.out)
            clear hW hgr hbel HG HB HV2
            go_wp2_with fail
            go_roundg (q + 1)
            case rel => exact ⟨q, by omega, rfl, by go_num, HG5, HB5⟩
            case measure => omega
      · have hne : (x.toList == y.toList) = false := toList_beq_ne hxy
        have HXY := hid hxy
        clear hxy
        by_cases h13 : a1 < a3
        · have h13' : (a1 : Int) < (a3 : Int) := by omega
          have HV2 := hid (show a3 = Dif.kAt (x :: xs) ys 0 q by rw [HKS.out]; first | (rw [if_pos (HXY.out)]; omega) | (rw [if_neg (HXY.out)]; omega))
          go_wp2_with (first | (refine op_store1 (g := g) (i := q) (v := .int .i64 (a3 : Int)) rfl rfl rfl rfl (by first | rfl | (go_simp; done) | (go_simp; rfl) | simp) HG.out rfl rfl infoIntS (by simp [rowV]; omega) ?_) | fail)
          intro w5 hW hgr hbel
          have HG5 := hid (show w5.heap[g]? = some (.cells (rowV (valW x xs ys q) (m + 1)).toArray 3 (0, 0)) by rw [show w5.heap[g]? = _ from (by first | exact rowStore (v := a3) hW (by omega) | exact rowStoreA (v := a3) hW (by omega) : w5.heap[g]? = some (.cells (rowV (fun y => if y = q then a3 else valW x xs ys (q + 1) y) (m + 1)).toArray 3 (0, 0)))]; exact congrArg (fun l => some (Obj.cells (List.toArray l) _ _)) (List.map_congr_left fun b _ => by rw [HV2.out]; exact congrArg (fun n : Nat => Value.int .i64 (n : Int)) (valW_step x xs ys q b)))
          have HB5 := hid (hbel _ _ HB.out HGL.out)
          clear hW hgr hbel HG HB HV2
          go_wp2_with fail
          go_roundg (q + 1)
          case rel => exact ⟨q, by omega, rfl, by go_num, HG5, HB5⟩
          case measure => omega
        · have h13' : ¬ (a1 : Int) < (a3 : Int) := by omega
          have HV2 := hid (show a1 = Dif.kAt (x :: xs) ys 0 q by rw [HKS.out]; first | (rw [if_pos (HXY.out)]; omega) | (rw [if_neg (HXY.out)]; omega))
          go_wp2_with (first | (refine op_store1 (g := g) (i := q) (v := .int .i64 (a1 : Int)) rfl rfl rfl rfl (by first | rfl | (go_simp; done) | (go_simp; rfl) | simp) HG.out rfl rfl infoIntS (by simp [rowV]; omega) ?_) | fail)
          intro w5 hW hgr hbel
          have HG5 := hid (show w5.heap[g]? = some (.cells (rowV (valW x xs ys q) (m + 1)).toArray 3 (0, 0)) by rw [show w5.heap[g]? = _ from (by first | exact rowStore (v := a1) hW (by omega) | exact rowStoreA (v := a1) hW (by omega) : w5.heap[g]? = some (.cells (rowV (fun y => if y = q then a1 else valW x xs ys (q + 1) y) (m + 1)).toArray 3 (0, 0)))]; exact congrArg (fun l => some (Obj.cells (List.toArray l) _ _)) (List.map_congr_left fun b _ => by rw [HV2.out]; exact congrArg (fun n : Nat => Value.int .i64 (n : Int)) (valW_step x xs ys q b)))
          have HB5 := hid (hbel _ _ HB.out HGL.out)
          clear hW hgr hbel HG HB HV2
          go_wp2_with fail
          go_roundg (q + 1)
          case rel => exact ⟨q, by omega, rfl, by go_num, HG5, HB5⟩
          case measure => omega
end Go.Proofs.Ytkbapegohodcgaa
