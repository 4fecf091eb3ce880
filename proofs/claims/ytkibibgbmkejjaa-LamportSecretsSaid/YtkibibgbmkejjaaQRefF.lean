import Derived.Test.YtkibibgbmkejjaaQRefD
import Derived.Test.YtkibibgbmkejjaaQShaH
set_option linter.unusedSimpArgs false
set_option linter.unusedVariables false
namespace Go.Proofs.Ytkibibgbmkejjaa
open Go.RowKit
open Go.Qk hiding rotr b4
set_option maxHeartbeats 1000000
set_option maxRecDepth 100000
theorem padded_eq (l : List UInt8) : padded l = l ++ padOf l.length := rfl
theorem padded_length (l : List UInt8) : (padded l).length % 64 = 0 := by
  simp [padded, be_length]
  omega
theorem padded_le (l : List UInt8) : (padded l).length ≤ l.length + 73 := by
  rw [padded_eq, List.length_append]
  have := padOf_length l.length
  omega
theorem blocks_add (h : List UInt32) (l : List UInt8) (a : Nat) : ∀ b, blocks h l (a + b) = blocks (blocks h l a) (l.drop (64 * a)) b
  | 0 => rfl
  | b + 1 => by
    show shaAdd (blocks h l (a + b)) ((l.drop (64 * (a + b))).take 64) = shaAdd (blocks (blocks h l a) (l.drop (64 * a)) b) (((l.drop (64 * a)).drop (64 * b)).take 64)
    rw [blocks_add h l a b, List.drop_drop, Nat.mul_add]
theorem blocks_front (h : List UInt32) (l m : List UInt8) : ∀ k, 64 * k ≤ l.length → blocks h (l ++ m) k = blocks h l k
  | 0, _ => rfl
  | k + 1, hk => by
    show shaAdd (blocks h (l ++ m) k) (((l ++ m).drop (64 * k)).take 64) = shaAdd (blocks h l k) ((l.drop (64 * k)).take 64)
    rw [blocks_front h l m k (by omega), List.drop_append_of_le_length (by omega), List.take_append_of_le_length (by rw [List.length_drop]; omega)]
theorem feed_feed (h : List UInt32) (l m : List UInt8) : feed (feed h l) (restOf l ++ m) = feed h (l ++ m) := by
  have hr : (restOf l ++ m) = (l ++ m).drop (64 * (l.length / 64)) := by
    rw [restOf, List.drop_append_of_le_length (by omega)]
  have hn : (l ++ m).length / 64 = l.length / 64 + (restOf l ++ m).length / 64 := by
    rw [hr, List.length_drop, List.length_append]
    omega
  unfold feed
  rw [hn, blocks_add, blocks_front h l m _ (by omega), hr]
theorem shaOf_padded (l : List UInt8) : (blocks shaH (padded l) ((padded l).length / 64)).flatMap b4 = shaOf l := by
  show (feed shaH (padded l)).flatMap b4 = (feed (feed shaH l) (restOf l ++ padOf l.length)).flatMap b4
  rw [feed_feed]
  rfl

theorem refSum (l : List UInt8) (hl : l.length ≤ 140737488355328) (w : World) :
    Calls Try.prog 93 #[.string (bs l)] w fun e w' => e = .returned (idV (shaOf l)) ∧ Below w.heap.size w w' := by
  have hp0 := padded_length l
  have hp1 := padded_le l
  have HSH := hid (shaOf_padded l)
  have HLL := hid hl
  have hpl : (padded l).length ≤ 140737488355401 := by omega
  clear hl hp1
  go_enter Try.func93, Try.ntmps93
  apply wp_seq_k; intro _ _; apply wp_region_lit
  refine wpList_val (v := .pointer (some ⟨w.heap.size, 0, none⟩)) (w' := w.alloc (.cells (u8s (zero8 32)).toArray 23)) rfl (by kernel_rfl) ?_
  have hg0 : (w.alloc (.cells (u8s (zero8 32)).toArray 23)).heap[w.heap.size]? = some (.cells (u8s (zero8 32)).toArray 23 (0, 0)) := heap_alloc_new _ _
  have hb0 : Grow w (w.alloc (.cells (u8s (zero8 32)).toArray 23)) := grow_alloc _ _
  generalize w.alloc (.cells (u8s (zero8 32)).toArray 23) = W at *
  have HW := hid hg0
  have HB := hid hb0
  clear hg0 hb0
  simp only [Act.put, List.setIfInBounds_toArray, List.set_cons_zero, List.set_cons_succ]
  refine wpList_nil ?_
  go_wp2_with fail
  refine (refKnown _).mono ?_
  rintro e W1 ⟨g1, g2, rfl, hH, hK, hb⟩
  have HH1 := hid hH
  have HK1 := hid hK
  have HW1 := hid (grow_block HW.out hb)
  have HB1 := hid (HB.out.trans hb)
  clear hH hK hb HW HB
  go_wp2_with fail
  refine (refPadded l HLL.out _).mono ?_
  rintro e W2 ⟨rfl, hb⟩
  have HH2 := hid (HH1.out.grow hb)
  have HK2 := hid (HK1.out.grow hb)
  have HW2 := hid (grow_block HW1.out hb)
  have HB2 := hid (HB1.out.trans hb)
  clear hb HH1 HK1 HW1 HB1
  generalize padded l = p at *
  have hps := bs_size p
  go_wp2_with fail
  go_loopg [3, 6] (p.length / 64 + 1) (fun q v i wr => ∃ k g c : Nat, 64 * k ≤ p.length ∧ q = p.length / 64 + 1 - k ∧ i = .int .i64 ((64 * k : Nat) : Int) ∧ v = .slice (some ⟨g, 0, none⟩) 8 c ∧ Hid (U32At wr ⟨g, 0, none⟩ (blocks shaH p k)) ∧ Hid (Grow W2 wr))
  case atStart => exact ⟨0, g1, 8, by omega, rfl, rfl, rfl, HH2, hid (Below.refl _ _)⟩
  case round =>
    obtain ⟨k, g, c, hk, hq, rfl, rfl, hV, hG⟩ := hrel
    clear HH2
    by_cases hlt : 64 * k < p.length
    · have hx := bs_extract p (64 * k) (64 * k + 64)
      have t1 : ((64 * k : Nat) : Int) < (p.length : Int) := by omega
      go_wp2_with fail
      refine (refOne (blocks shaH p k) (blocks_length _ _ rfl k) ⟨g, 0, none⟩ ⟨g2, 0, none⟩ c 64 ((p.drop (64 * k)).take 64) (by rw [List.length_take, List.length_drop]; omega) _ hV.out (HK2.out.grow hG.out)).mono ?_
      rintro e W3 ⟨v, rfl, hO, hb⟩
      obtain ⟨g3, c3, rfl, _, _⟩ := own_form hO (by omega)
      have HV3 : Hid (U32At W3 ⟨g3, 0, none⟩ (blocks shaH p (k + 1))) := u32At_own hO
      have HG3 := hid (hG.out.trans hb)
      clear hO hb hV hG
      go_wp2_with fail
      go_roundg (p.length / 64 + 1 - (k + 1))
      case rel => exact ⟨k + 1, g3, c3, by omega, rfl, by go_num, rfl, HV3, HG3⟩
      case measure => omega
    · have HKK := hid (show k = p.length / 64 by omega)
      have t1 : decide (((64 * k : Nat) : Int) < (p.length : Int)) = false := by simp; omega
      have t2 : ¬ ((64 * k : Nat) : Int) < (p.length : Int) := by omega
      have hbl := blocks_length shaH p rfl k
      rw [← HKK.out] at HSH
      have hfl := flat_b4 (blocks shaH p k)
      rw [hbl, HSH.out] at hfl
      have HW3 := hid (grow_block HW2.out hG.out)
      have HB3 := hid (HB2.out.trans hG.out)
      clear HW2 HB2
      go_wp2_with fail
      refine (refBytes (blocks shaH p k) hbl ⟨g, 0, none⟩ c _ (hV.out.grow (grow_alloc _ _))).mono ?_
      rintro e W4 ⟨rfl, hb⟩
      rw [HSH.out]
      have hfs := bs_size (shaOf l)
      have hgb : (wr.alloc (.cells (u8s (zero8 32)).toArray 23)).heap[wr.heap.size]? = some (.cells (u8s (zero8 32)).toArray 23 (0, 0)) := heap_alloc_new _ _
      have HGB := hid (grow_block hgb hb)
      have HW4 := hid (grow_block HW3.out ((grow_alloc _ _).trans hb))
      have HB4 := hid (HB3.out.trans ((grow_alloc _ _).trans hb))
      have HLE := hid HB3.out.size
      have HLT := hid (show w.heap.size < wr.heap.size from (Array.getElem?_eq_some_iff.1 HW3.out).1)
      obtain ⟨wo, rfl⟩ : ∃ wo : World, wo = wr := ⟨_, rfl⟩
      generalize hSF : shaOf l = F at *
      have HSF := hid hSF
      clear hSF
      clear hgb hb HW3 HB3 hV hG HK2 hbl t1 t2 HKK hk hq hlt
      go_wp2_with fail
      go_loopg [9] 33 (fun q i wr => ∃ k : Nat, k ≤ 32 ∧ q = 33 - k ∧ i = .int .i64 k ∧ Hid (wr.heap[wo.heap.size]? = some (.cells (u8s (F.take k ++ zero8 (32 - k))).toArray 23 (0, 0))) ∧ Hid (wr.heap[w.heap.size]? = some (.cells (u8s (zero8 32)).toArray 23 (0, 0))) ∧ Hid (Grow w wr))
      case atStart => exact ⟨0, by omega, rfl, rfl, HGB, HW4, HB4⟩
      case round =>
        clear HGB HW4 HB4
        obtain ⟨k, hk, hq, rfl, hA, hR, hB⟩ := hrel
        by_cases hlt : k < 32
        · have hix : ∀ w, (Instr.index 9 (.string (bs F)) (.int .i64 k)).run Try.prog w = .ok (.int .u8 (b8 F k)) w := fun w => by
            have := run_index_str (P := Try.prog) 9 (bs F) k (by omega) k rfl w Try.underlying9
            rw [bl_bs] at this
            exact this
          have hll : (F.take k ++ zero8 (32 - k)).length = 32 := by simp [zero8]; omega
          have c4 : wr.cell? ⟨wo.heap.size, k, none⟩ = some (.int .u8 (b8 (F.take k ++ zero8 (32 - k)) k)) := cell_u8 hA.out (grow_refl wr) k (by omega)
          have f4 : wr.frozen? ⟨wo.heap.size, k, none⟩ = false := frozen_of_row wr _ k _ _ hA.out
          have HSET := hid (show (u8s (F.take k ++ zero8 (32 - k))).toArray.setIfInBounds k (.int .u8 (b8 F k)) = (u8s (F.take (k + 1) ++ zero8 (32 - (k + 1)))).toArray by
            rw [show zero8 (32 - k) = 0 :: zero8 (32 - (k + 1)) from by rw [zero8, show 32 - k = (32 - (k + 1)) + 1 from by omega]; rfl]
            have hk2 : k < F.length := by omega
            rw [List.take_succ_eq_append_getElem hk2, List.setIfInBounds_toArray]
            have hlk : (F.take k).length = k := by rw [List.length_take]; omega
            rw [u8s_append, List.set_append_right _ _ (by rw [u8s_length, hlk]; omega), u8s_length, hlk]
            have hg : F.getD k 0 = F[k] := by simp [hk2]
            simp only [u8s, List.map_append, List.map_cons, List.map_nil, List.set_cons_zero, Nat.sub_self, List.append_assoc, List.cons_append, List.nil_append, b8, hg])
          have n0 : (0 : Int) ≤ (k : Int) := by omega
          have n1 : (k : Int) < 32 := by omega
          go_wp2
          go_roundg (33 - (k + 1))
          case rel =>
            refine ⟨k + 1, by omega, rfl, by go_num, ?_, ?_, hid (hB.out.setCell HLE.out _)⟩
            · have h2 := heap_setCell_same wr wo.heap.size k _ _ (.int .u8 (b8 F k)) hA.out
              rw [HSET.out] at h2
              exact h2
            · have := HLT.out
              exact hid ((heap_setCell_other _ _ _ _ (by simp; omega)).trans hR.out)
          case measure => omega
        · obtain rfl : k = 32 := by omega
          have hFA := hA.out
          rw [List.take_of_length_le (by omega), show zero8 (32 - 32) = [] from rfl, List.append_nil] at hFA
          have HFA := hid hFA
          have hfl32 : F.length = 32 := hfl
          clear hA hFA
          go_wp2_with (first | (refine wpList_load_agg rfl 23 (.tmp 7) rfl ⟨wo.heap.size, 0, none⟩ rfl (u8s F) _ (cells_block (tl := []) (by rw [List.append_nil]; exact HFA.out)) Try.underlying23 rfl (by rw [szId, u8s_length, hfl32]) ?_) | (refine store_block 23 (.tmp 2) (.tmp 41) w.heap.size 0 (u8s F) (u8s (zero8 32)) (u8s F) 23 rfl rfl rfl rfl rfl hR.out (by rw [szId, u8s_length, hfl32]) ?c1 (u8s_one _) ?c2 ?_))
          case c1 => simp [u8s_length, zero8, hfl32]
          case c2 => simp [u8s_length, hfl32, zero8]
          intro W6 hw6 _ hb6
          have HB6 := hid (hb6 _ _ hB.out (Nat.le_refl _))
          have HR6 := hid hw6
          clear hw6 hb6
          go_wp2
          refine bodyPost_ret (v := idV F) (results_cell_row rfl _ _ w.heap.size 23 _ (0, 0) _ rfl HR6.out Try.underlying23 rfl (by rw [szId]; simp [u8s_length, hfl32])) rfl ⟨by rw [HSF.out], HB6.out⟩
end Go.Proofs.Ytkibibgbmkejjaa
