/- The law WitnessFinds: plain; the reference's Keeps. -/
import Derived.Test.YtabkaflccaklhaaGreatQWitI
set_option linter.unusedSimpArgs false
set_option linter.unusedVariables false
namespace Go.Proofs.YtabkaflccaklhaaGreat
open Go.RowKit
open Go.Qk hiding rotr b4
set_option maxHeartbeats 4000000
set_option maxRecDepth 100000
theorem texts_small (seed : ByteArray) (b h leaf : Nat) (s0 : IdK) (way pubs : List IdK) (h0 : s0.length = 32) (hw : ∀ s ∈ way, s.length = 32) (hp1 : ∀ s ∈ pubs, s.length = 32) (hp2 : pubs.length ≤ 1000000) (hb : b ≤ 256) :
    ∀ t ∈ textsW seed b h leaf s0 way pubs, t.1.length ≤ 140737488355328 ∧ t.2.length ≤ 140737488355328 := by
  have key : ∀ r : IdK, r.length = 32 → (keyTx b h r).length ≤ 140737488355328 := fun r hr => key_small b h r hr
  have node : ∀ x y : IdK, x.length = 32 → y.length = 32 → (nodeTx x y).length ≤ 140737488355328 := fun x y hx hy => textOf_two nodeName x y (by decide) (by omega) (by omega)
  have leafT : ∀ l : List IdK, (∀ s ∈ l, s.length = 32) → l.length ≤ 1000000 → (leafTx l).length ≤ 140737488355328 := fun l hl hn => textOf_one leafName l.flatten (by decide) (by rw [flatten32_length l hl]; omega)
  intro t ht
  unfold textsW at ht
  simp only [List.cons_append, List.mem_cons, List.mem_append, List.mem_reverse, List.mem_map, List.mem_range, List.not_mem_nil, or_false] at ht
  rcases ht with rfl | ⟨k, hk, rfl⟩ | rfl
  · exact ⟨key _ (climbTo_length _ _ _ h0), key _ (nodeOf_length _ _ _ _)⟩
  · have lc := curW_length leaf s0 way k h0
    have lw := way_len hw hk
    refine ⟨node _ _ ?_ ?_, node _ _ (nodeOf_length _ _ _ _) (nodeOf_length _ _ _ _)⟩
    · unfold sideA; split <;> assumption
    · unfold sideB; split <;> assumption
  · exact ⟨leafT _ hp1 hp2, leafT _ (bothRow_32 _ (leafPub_length seed leaf) b) (by rw [bothRow_length]; omega)⟩
theorem finds_law (seed : ByteArray) (b h leaf : Nat) (fs : List WRow) (sum : IdK) (shown hidden way : List IdK) (n m k : Nat) (hn : shown.length = n) (hm : hidden.length = m) (hkk : way.length = k) (h1 : ∀ s ∈ shown, s.length = 32) (h2 : ∀ s ∈ hidden, s.length = 32) (h3 : ∀ s ∈ way, s.length = 32)
    (hf : fitsB b h leaf n m k = true) (hkey : keyOf b h (rootOf sum leaf shown hidden way) = ktOf seed b h) :
    ∃ (kk : Int) (sa sc : List UInt8) (lf bt sd : Int) (v : IdK), findC seed b h leaf (recRes sum shown hidden) way (pubRes sum shown hidden) fs sum shown = witC kk sa sc lf bt sd v ∧ v.length = 32 ∧ sa.length ≤ 140737488355328 ∧ sc.length ≤ 140737488355328 ∧ lf ≤ 9223372036854775807 ∧
      ((kk = 0 ∧ ¬ keepsW fs) ∨ (kk ≠ 0 ∧ holdsB b seed fs sum leaf kk sa sc lf bt sd v = true)) := by
  obtain ⟨hkt, q1, q2, q3, q4, q5⟩ := fits_spec hf
  obtain ⟨b1, b2, _, _⟩ := kt_bounds hkt
  have hlf : leaf < 2 ^ h := by
    simp only [fitsB, Bool.and_eq_true, decide_eq_true_eq] at hf
    have := hf.2.2.1
    rw [Int.toNat_natCast] at this
    omega
  have hok : pubOk shown hidden = true := by
    unfold pubOk
    rw [hn, hm, q3]
    simp only [ktB, Bool.and_eq_true] at hkt
    simp [hkt.1]
    omega
  have hpr : pubRes sum shown hidden = bothRow (pubG sum shown hidden) b := by
    unfold pubRes pubRow
    rw [if_pos hok, hn, show n = b by omega]
  have hrr : recRes sum shown hidden = chainOf leafName (pubRes sum shown hidden) := by
    unfold recRes pubRes
    rw [if_pos hok, if_pos hok]
    rfl
  have l0 := recRes_length sum shown hidden
  have p32 : ∀ s ∈ pubRes sum shown hidden, s.length = 32 := by
    rw [hpr]
    exact bothRow_32 _ (pubG_length sum shown hidden h2) b
  have pl : (pubRes sum shown hidden).length ≤ 1000000 := by rw [hpr, bothRow_length]; omega
  have hkey' : keyOf b h (climbTo leaf (recRes sum shown hidden) way) = ktOf seed b h := by
    rw [← hkey]
    unfold rootOf
    rw [Int.toNat_natCast]
  obtain ⟨T1, T2⟩ := texts_law seed b h leaf (recRes sum shown hidden) way (pubRes sum shown hidden) l0 h3 hrr p32 pl (by omega) (by omega) hlf hkey'
  have TS := texts_small seed b h leaf (recRes sum shown hidden) way (pubRes sum shown hidden) l0 h3 p32 pl (by omega)
  have z8 : (zero8 32).length = 32 := rfl
  unfold findC
  cases hft : (textsW seed b h leaf (recRes sum shown hidden) way (pubRes sum shown hidden)).find? unlikeP with
  | some t =>
    have ht := T1 t hft
    have hts := TS t (List.mem_of_find?_eq_some hft)
    refine ⟨2, t.1, t.2, 0, 0, 0, zero8 32, rfl, z8, hts.1, hts.2, by omega, .inr ⟨by omega, ?_⟩⟩
    unfold holdsB
    rw [if_neg (by omega), if_pos rfl, decide_eq_false ht.1, decide_eq_true ht.2]
    rfl
  | none =>
    have hpe := T2 hft
    cases hho : honestW b fs sum leaf with
    | true =>
      refine ⟨1, [], [], 0, 0, 0, zero8 32, by simp, z8, by simp, by simp, by omega, .inr ⟨by omega, ?_⟩⟩
      unfold holdsB
      rw [if_pos rfl, hho]
    | false =>
      cases hfi : firstW b fs sum leaf with
      | some j =>
        have hj : j < b := List.mem_range.1 (List.mem_of_find?_eq_some hfi)
        have hsh : shownW fs leaf j (bitI sum j) = false := by
          have := List.find?_some hfi
          simpa using this
        have hb := bitI_range sum j
        refine ⟨3, [], [], leaf, j, bitI sum j, shown.getD j [], by simp, getD_mem_len h1 (by omega), by simp, by simp, by omega, .inr ⟨by omega, ?_⟩⟩
        unfold holdsB
        rw [if_neg (by omega), if_neg (by omega), if_pos rfl, decide_eq_true rfl, decide_eq_true (show (0 : Int) ≤ (j : Int) by omega), decide_eq_true (show (j : Int) < (b : Int) by omega), decide_eq_true hb.1, decide_eq_true hb.2, Int.toNat_natCast, hsh]
        rw [hpr] at hpe
        rw [decide_eq_true (shown_public hpe hj)]
        rfl
      | none =>
        exact ⟨0, [], [], 0, 0, 0, zero8 32, by simp [witZ], z8, by simp, by simp, by omega, .inl ⟨rfl, none_keeps (by omega) hho hfi⟩⟩
theorem keeps_iff (fs : List WRow) : keepsW fs ↔ ∀ i, i < fs.length → ∀ k, k < i → (fs.getD i wr0).1 ≠ (fs.getD k wr0).1 := by
  unfold keepsW
  rw [show (fs.map Prod.fst).Nodup ↔ (fs.map Prod.fst).Pairwise (· ≠ ·) from Iff.rfl, List.pairwise_map, List.pairwise_iff_getElem]
  constructor
  · intro h i hi k hk
    have := h k i (by omega) hi hk
    simp only [List.getD_eq_getElem?_getD, List.getElem?_eq_getElem hi, List.getElem?_eq_getElem (show k < fs.length by omega), Option.getD_some]
    exact fun e => this e.symm
  · intro h k i hk hi hki
    have := h i hi k hki
    simp only [List.getD_eq_getElem?_getD, List.getElem?_eq_getElem hi, List.getElem?_eq_getElem hk, Option.getD_some] at this
    exact fun e => this e.symm
theorem refKeeps9 (A : Option Addr) (n c : Nat) (fs : List WRow) (kb : Bool) (w : World) (hx : WrRow w A fs) (hn : fs.length = n) (hkb : kb = true ↔ keepsW fs) :
    Calls Tryz.prog 38 #[.slice A n c] w fun e w' => e = .returned (.bool kb) ∧ Below w.heap.size w w' := by
  have HX := hid hx
  have HN := hid hn
  have HK := hid (hkb.trans (keeps_iff fs))
  have n9 : n ≤ 9223372036854775807 := by have := hx.1; omega
  clear hx hn hkb
  go_enter Tryz.func38, Tryz.ntmps38
  have HB := hid (grow_refl w)
  go_wp2_with fail
  go_loopg [3] (n + 1) (fun z i wr => ∃ j : Nat, j ≤ n ∧ z = n + 1 - j ∧ i = .int .i64 (j : Int) ∧ Hid (∀ i, i < j → ∀ k, k < i → (fs.getD i wr0).1 ≠ (fs.getD k wr0).1) ∧ Hid (Grow w wr))
  case atStart => exact ⟨0, by omega, by omega, rfl, hid (fun i hi => absurd hi (by omega)), HB⟩
  case round =>
    clear HB
    obtain ⟨j, hj, hz, rfl, HA, HB⟩ := hrel
    have j0 : (0 : Int) ≤ (j : Int) := by omega
    by_cases hlt : j < n
    · have j1 : (j : Int) < (n : Int) := by omega
      go_wp2_with fail
      go_loopg [4] (j + 1) (fun z i wr => ∃ k : Nat, k ≤ j ∧ z = j + 1 - k ∧ i = .int .i64 (k : Int) ∧ Hid (∀ k', k' < k → (fs.getD j wr0).1 ≠ (fs.getD k' wr0).1) ∧ Hid (Grow w wr))
      case atStart => exact ⟨0, by omega, by omega, rfl, hid (fun k hk => absurd hk (by omega)), HB⟩
      case round =>
        clear HB
        obtain ⟨k, hk, hz2, rfl, HC, HB⟩ := hrel
        have k0 : (0 : Int) ≤ (k : Int) := by omega
        by_cases hkl : k < j
        · have k1 : (k : Int) < (j : Int) := by omega
          have k2 : (k : Int) < (n : Int) := by omega
          obtain ⟨ad, rfl, hc1⟩ := (HX.out.grow HB.out).at_ j (by rw [HN.out]; exact hlt)
          obtain ⟨ad', e', hc2⟩ := (HX.out.grow HB.out).at_ k (by rw [HN.out]; omega)
          cases e'
          have HC1 := hid (wr_cell0 hc1)
          have HC2 := hid (wr_cell0 hc2)
          clear hc1 hc2
          obtain ⟨x, hxj⟩ : ∃ x, x = (fs.getD j wr0).1 := ⟨_, rfl⟩
          obtain ⟨y, hyk⟩ : ∃ y, y = (fs.getD k wr0).1 := ⟨_, rfl⟩
          rw [← hxj] at HC1
          rw [← hyk] at HC2
          by_cases he : x = y
          · have te : (x == y) = true := by simpa using he
            have HKF := hid (show kb = false by
              cases hkk : kb with
              | false => rfl
              | true => exact absurd (hxj.symm.trans (he.trans hyk)) (HK.out.1 hkk j (by rw [HN.out]; exact hlt) k hkl))
            clear he hxj hyk
            go_wp2_with fail
            (refine' wp_region_head 11 0 [_, _, _, _, _, _, _, _, _, _, _] rfl (by kernel_rfl) (by kernel_rfl) ?hreg1; case' hreg1 => simp only [List.take_succ_cons, List.take_zero, List.zip_cons_cons, List.zip_nil_right, List.drop_succ_cons, List.drop_zero, List.drop_nil])
            (refine' head_val ?dw2 ?de2 ?dr2 ?dh2; (case' dw2 => rfl); (case' de2 => (first | exact fun _ _ _ => trivial | (intro t ht w; cases ht; simp [upE]))); (case' dr2 => (intro w' hw' _; go_simp; with_reducible rfl)); (case' dh2 => (try simp only [Act.put, List.setIfInBounds_toArray, List.set_cons_zero, List.set_cons_succ]))); (refine' head_val ?dw3 ?de3 ?dr3 ?dh3; (case' dw3 => rfl); (case' de3 => (first | exact fun _ _ _ => trivial | (intro t ht w; cases ht; simp [upE]))); (case' dr3 => (intro w' hw' _; go_simp; with_reducible rfl)); (case' dh3 => (try simp only [Act.put, List.setIfInBounds_toArray, List.set_cons_zero, List.set_cons_succ]))); (refine' head_val ?dw4 ?de4 ?dr4 ?dh4; (case' dw4 => rfl); (case' de4 => (first | exact fun _ _ _ => trivial | (intro t ht w; cases ht; simp [upE]))); (case' dr4 => (intro w' hw' _; go_simp; with_reducible rfl)); (case' dh4 => (try simp only [Act.put, List.setIfInBounds_toArray, List.set_cons_zero, List.set_cons_succ]))); (refine' head_val ?dw5 ?de5 ?dr5 ?dh5; (case' dw5 => rfl); (case' de5 => (first | exact fun _ _ _ => trivial | (intro t ht w; cases ht; simp [upE]))); (case' dr5 => (intro w' hw' _; go_simp; with_reducible rfl)); (case' dh5 => (try simp only [Act.put, List.setIfInBounds_toArray, List.set_cons_zero, List.set_cons_succ])))
            (refine' head_loadCell rfl ?_ rfl rfl (HC1.out) Tryz.underlying3 rfl ?_; (first | exact fun _ _ _ => trivial | (intro t ht w; cases ht; simp [upE])); try simp only [Act.put, List.setIfInBounds_toArray, List.set_cons_zero, List.set_cons_succ])
            (refine' head_val ?dw6 ?de6 ?dr6 ?dh6; (case' dw6 => rfl); (case' de6 => (first | exact fun _ _ _ => trivial | (intro t ht w; cases ht; simp [upE]))); (case' dr6 => (intro w' hw' _; go_simp; with_reducible rfl)); (case' dh6 => (try simp only [Act.put, List.setIfInBounds_toArray, List.set_cons_zero, List.set_cons_succ]))); (refine' head_val ?dw7 ?de7 ?dr7 ?dh7; (case' dw7 => rfl); (case' de7 => (first | exact fun _ _ _ => trivial | (intro t ht w; cases ht; simp [upE]))); (case' dr7 => (intro w' hw' _; go_simp; with_reducible rfl)); (case' dh7 => (try simp only [Act.put, List.setIfInBounds_toArray, List.set_cons_zero, List.set_cons_succ]))); (refine' head_val ?dw8 ?de8 ?dr8 ?dh8; (case' dw8 => rfl); (case' de8 => (first | exact fun _ _ _ => trivial | (intro t ht w; cases ht; simp [upE]))); (case' dr8 => (intro w' hw' _; go_simp; with_reducible rfl)); (case' dh8 => (try simp only [Act.put, List.setIfInBounds_toArray, List.set_cons_zero, List.set_cons_succ]))); (refine' head_val ?dw9 ?de9 ?dr9 ?dh9; (case' dw9 => rfl); (case' de9 => (first | exact fun _ _ _ => trivial | (intro t ht w; cases ht; simp [upE]))); (case' dr9 => (intro w' hw' _; go_simp; with_reducible rfl)); (case' dh9 => (try simp only [Act.put, List.setIfInBounds_toArray, List.set_cons_zero, List.set_cons_succ])))
            (refine' head_loadCell rfl ?_ rfl rfl (HC2.out) Tryz.underlying3 rfl ?_; (first | exact fun _ _ _ => trivial | (intro t ht w; cases ht; simp [upE])); try simp only [Act.put, List.setIfInBounds_toArray, List.set_cons_zero, List.set_cons_succ])
            (refine' head_val ?dw10 ?de10 ?dr10 ?dh10; (case' dw10 => rfl); (case' de10 => (first | exact fun _ _ _ => trivial | (intro t ht w; cases ht; simp [upE]))); (case' dr10 => (intro w' hw' _; go_simp; with_reducible rfl)); (case' dh10 => (try simp only [Act.put, List.setIfInBounds_toArray, List.set_cons_zero, List.set_cons_succ])))
            refine head_nil ?_
            intro w1 hb _
            replace HB := hid (Grow.trans HB.out hb)
            clear hb
            refine wpList_nil ?_
            go_wp2_with fail
            go_ret
            exact ⟨by rw [HKF.out]; rfl, HB.out⟩
          · have te : (x == y) = false := by simpa using he
            have HC' := hid (show ∀ k', k' < k + 1 → (fs.getD j wr0).1 ≠ (fs.getD k' wr0).1 from fun k' hk' => by
              by_cases e : k' < k
              · exact HC.out k' e
              · obtain rfl : k' = k := by omega
                rw [← hxj, ← hyk]
                exact he)
            clear he hxj hyk
            go_wp2_with fail
            (refine' wp_region_head 11 0 [_, _, _, _, _, _, _, _, _, _, _] rfl (by kernel_rfl) (by kernel_rfl) ?hreg11; case' hreg11 => simp only [List.take_succ_cons, List.take_zero, List.zip_cons_cons, List.zip_nil_right, List.drop_succ_cons, List.drop_zero, List.drop_nil])
            (refine' head_val ?dw12 ?de12 ?dr12 ?dh12; (case' dw12 => rfl); (case' de12 => (first | exact fun _ _ _ => trivial | (intro t ht w; cases ht; simp [upE]))); (case' dr12 => (intro w' hw' _; go_simp; with_reducible rfl)); (case' dh12 => (try simp only [Act.put, List.setIfInBounds_toArray, List.set_cons_zero, List.set_cons_succ]))); (refine' head_val ?dw13 ?de13 ?dr13 ?dh13; (case' dw13 => rfl); (case' de13 => (first | exact fun _ _ _ => trivial | (intro t ht w; cases ht; simp [upE]))); (case' dr13 => (intro w' hw' _; go_simp; with_reducible rfl)); (case' dh13 => (try simp only [Act.put, List.setIfInBounds_toArray, List.set_cons_zero, List.set_cons_succ]))); (refine' head_val ?dw14 ?de14 ?dr14 ?dh14; (case' dw14 => rfl); (case' de14 => (first | exact fun _ _ _ => trivial | (intro t ht w; cases ht; simp [upE]))); (case' dr14 => (intro w' hw' _; go_simp; with_reducible rfl)); (case' dh14 => (try simp only [Act.put, List.setIfInBounds_toArray, List.set_cons_zero, List.set_cons_succ]))); (refine' head_val ?dw15 ?de15 ?dr15 ?dh15; (case' dw15 => rfl); (case' de15 => (first | exact fun _ _ _ => trivial | (intro t ht w; cases ht; simp [upE]))); (case' dr15 => (intro w' hw' _; go_simp; with_reducible rfl)); (case' dh15 => (try simp only [Act.put, List.setIfInBounds_toArray, List.set_cons_zero, List.set_cons_succ])))
            (refine' head_loadCell rfl ?_ rfl rfl (HC1.out) Tryz.underlying3 rfl ?_; (first | exact fun _ _ _ => trivial | (intro t ht w; cases ht; simp [upE])); try simp only [Act.put, List.setIfInBounds_toArray, List.set_cons_zero, List.set_cons_succ])
            (refine' head_val ?dw16 ?de16 ?dr16 ?dh16; (case' dw16 => rfl); (case' de16 => (first | exact fun _ _ _ => trivial | (intro t ht w; cases ht; simp [upE]))); (case' dr16 => (intro w' hw' _; go_simp; with_reducible rfl)); (case' dh16 => (try simp only [Act.put, List.setIfInBounds_toArray, List.set_cons_zero, List.set_cons_succ]))); (refine' head_val ?dw17 ?de17 ?dr17 ?dh17; (case' dw17 => rfl); (case' de17 => (first | exact fun _ _ _ => trivial | (intro t ht w; cases ht; simp [upE]))); (case' dr17 => (intro w' hw' _; go_simp; with_reducible rfl)); (case' dh17 => (try simp only [Act.put, List.setIfInBounds_toArray, List.set_cons_zero, List.set_cons_succ]))); (refine' head_val ?dw18 ?de18 ?dr18 ?dh18; (case' dw18 => rfl); (case' de18 => (first | exact fun _ _ _ => trivial | (intro t ht w; cases ht; simp [upE]))); (case' dr18 => (intro w' hw' _; go_simp; with_reducible rfl)); (case' dh18 => (try simp only [Act.put, List.setIfInBounds_toArray, List.set_cons_zero, List.set_cons_succ]))); (refine' head_val ?dw19 ?de19 ?dr19 ?dh19; (case' dw19 => rfl); (case' de19 => (first | exact fun _ _ _ => trivial | (intro t ht w; cases ht; simp [upE]))); (case' dr19 => (intro w' hw' _; go_simp; with_reducible rfl)); (case' dh19 => (try simp only [Act.put, List.setIfInBounds_toArray, List.set_cons_zero, List.set_cons_succ])))
            (refine' head_loadCell rfl ?_ rfl rfl (HC2.out) Tryz.underlying3 rfl ?_; (first | exact fun _ _ _ => trivial | (intro t ht w; cases ht; simp [upE])); try simp only [Act.put, List.setIfInBounds_toArray, List.set_cons_zero, List.set_cons_succ])
            (refine' head_val ?dw20 ?de20 ?dr20 ?dh20; (case' dw20 => rfl); (case' de20 => (first | exact fun _ _ _ => trivial | (intro t ht w; cases ht; simp [upE]))); (case' dr20 => (intro w' hw' _; go_simp; with_reducible rfl)); (case' dh20 => (try simp only [Act.put, List.setIfInBounds_toArray, List.set_cons_zero, List.set_cons_succ])))
            refine head_nil ?_
            intro w2 hb _
            replace HB := hid (Grow.trans HB.out hb)
            clear hb
            refine wpList_nil ?_
            go_wp2_with fail
            go_roundg (j + 1 - (k + 1))
            case rel => exact ⟨k + 1, by omega, rfl, by go_num, HC', HB⟩
            case measure => omega
        · obtain rfl : k = j := by omega
          have HA' := hid (show ∀ i, i < k + 1 → ∀ k', k' < i → (fs.getD i wr0).1 ≠ (fs.getD k' wr0).1 from fun i hi k' hk' => by
            by_cases e : i < k
            · exact HA.out i e k' hk'
            · obtain rfl : i = k := by omega
              exact HC.out k' hk')
          go_wp2_with fail
          go_roundg (n + 1 - (k + 1))
          case rel => exact ⟨k + 1, by omega, rfl, by go_num, HA', HB⟩
          case measure => omega
    · obtain rfl : j = n := by omega
      have HKT := hid (show kb = true from HK.out.2 (by rw [HN.out]; exact HA.out))
      go_wp2_with fail
      go_ret
      exact ⟨by rw [HKT.out]; rfl, HB.out⟩
end Go.Proofs.YtabkaflccaklhaaGreat
