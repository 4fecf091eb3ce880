/- slices.Compact on a row of ids of the call's own: walk. -/
import Derived.Test.YtffgifegaagndaaQSrt3
set_option linter.unusedSimpArgs false
set_option linter.unusedVariables false
namespace Go.Proofs.Ytffgifegaagndaa
open Go.RowKit
open Go.Qk hiding rotr b4
set_option maxHeartbeats 2000000
set_option maxRecDepth 100000
theorem wrap_nat (p : Nat) (h : p ≤ 9223372036854775807) : IntKind.i64.wrap (p : Int) = (p : Int) := by
  simp [IntKind.wrap, IntKind.bits, IntKind.signed]
  omega
theorem compactBlk {B g cap n : Nat} {ad : Addr} (had : ad = ⟨g, 0, none⟩) (hB : B ≤ g) (xs : List (List UInt8)) (tl : List Value) (hn : xs.length = n) (h2 : 2 ≤ n) (hcap : n ≤ cap) (hcm : cap ≤ 9223372036854775807) (hmax : n ≤ 1000000) (h32 : ∀ s ∈ xs, s.length = 32) (w0 w : World) (hs : StR B w0 g xs tl w) :
    Calls Try.prog 120 #[.slice (some ad) n cap] w fun e w' =>
      ∃ zs, zs.length = (n - (compactL xs).length) * 32 ∧ e = .returned (.slice (some ad) (compactL xs).length cap) ∧ StR B w0 g (compactL xs) (zs ++ tl) w' := by
  have HAD := hid had
  have HBG := hid hB
  have HN := hid hn
  have H32 := hid h32
  have HS := hid hs
  have t1 : decide ((n : Int) < 2) = false := by simp; omega
  have nb : (n : Int) ≤ 1000000 := by omega
  have HCAP := hid hcap
  have HN2 := hid h2
  clear had hB hn h32 hs
  go_enter Try.func120, Try.ntmps120
  have HB := hid (grow_refl w)
  clear HB
  go_wp2_with fail
  clear t1
  go_loopg [3] n (fun z i wr => ∃ k : Nat, 1 ≤ k ∧ k ≤ n ∧ z = n + 1 - k ∧ i = .int .i64 (k : Int) ∧ Hid (∀ j, j < k → keepB xs j = true) ∧ Hid (StR B w0 g xs tl wr))
  case atStart => exact ⟨1, by omega, by omega, by omega, rfl, hid (fun j hj => by obtain rfl : j = 0 := by omega
                                                                                   rfl), HS⟩
  case round =>
    clear HS
    obtain ⟨k, hk1, hk, hz, rfl, HK, HS⟩ := hrel
    by_cases hlt : k < n
    · obtain ⟨p, hp⟩ : ∃ p, p = k - 1 := ⟨_, rfl⟩
      have hkp : (k : Int) - 1 = (p : Int) := by omega
      have k0 : (0 : Int) ≤ (k : Int) := by omega
      have k1 : (k : Int) < (n : Int) := by omega
      have p0 : (0 : Int) ≤ (p : Int) := by omega
      have p1 : (p : Int) < (n : Int) := by omega
      have HR := hid (HS.out.row HAD.out H32.out (by have := HN.out; omega))
      obtain ⟨_, e1, hc⟩ := HR.out.at_ k (by rw [HN.out]; exact hlt)
      cases e1
      obtain ⟨_, e1, hd⟩ := HR.out.at_ p (by rw [HN.out]; omega)
      cases e1
      have HC := hid hc
      have HD := hid hd
      have S1 := hid (getD_mem_len H32.out (show k < xs.length by rw [HN.out]; exact hlt))
      have S2 := hid (getD_mem_len H32.out (show p < xs.length by rw [HN.out]; omega))
      have hq1 := fun w => id_eql (xs.getD k []) (xs.getD p []) S1.out S2.out w
      have hq2 := id_guard .eql (xs.getD k []) (xs.getD p [])
      have HKB := hid (show keepB xs k = !(xs.getD k [] == xs.getD p []) by unfold keepB; rw [← hp, show (k == 0) = false by simp; omega, Bool.false_or])
      have HP := hid hp
      have wp := wrap_nat p (by omega)
      clear hc hd HR hp
      generalize xs.getD k [] = s1 at *
      generalize xs.getD p [] = s2 at *
      go_wp2_with fail
      (refine' wp_region_head 10 0 [_, _, _, _, _, _, _, _, _, _] rfl (by kernel_rfl) (by kernel_rfl) ?hreg1; case' hreg1 => simp only [List.take_succ_cons, List.take_zero, List.zip_cons_cons, List.zip_nil_right, List.drop_succ_cons, List.drop_zero, List.drop_nil])
      (refine' head_val ?dw2 ?de2 ?dr2 ?dh2; (case' dw2 => rfl); (case' de2 => (first | exact fun _ _ _ => trivial | (intro t ht w; cases ht; simp [upE]))); (case' dr2 => (intro w' hw' _; go_simp; with_reducible rfl)); (case' dh2 => (try simp only [Act.put, List.setIfInBounds_toArray, List.set_cons_zero, List.set_cons_succ]))); (refine' head_val ?dw3 ?de3 ?dr3 ?dh3; (case' dw3 => rfl); (case' de3 => (first | exact fun _ _ _ => trivial | (intro t ht w; cases ht; simp [upE]))); (case' dr3 => (intro w' hw' _; go_simp; with_reducible rfl)); (case' dh3 => (try simp only [Act.put, List.setIfInBounds_toArray, List.set_cons_zero, List.set_cons_succ]))); (refine' head_val ?dw4 ?de4 ?dr4 ?dh4; (case' dw4 => rfl); (case' de4 => (first | exact fun _ _ _ => trivial | (intro t ht w; cases ht; simp [upE]))); (case' dr4 => (intro w' hw' _; go_simp; with_reducible rfl)); (case' dh4 => (try simp only [Act.put, List.setIfInBounds_toArray, List.set_cons_zero, List.set_cons_succ])))
      (refine' head_loadAt (x := _) rfl ?_ rfl rfl (HC.out) (S1.out) ?_; (first | exact fun _ _ _ => trivial | (intro t ht w; cases ht; simp [upE])); try simp only [Act.put, List.setIfInBounds_toArray, List.set_cons_zero, List.set_cons_succ])
      (refine' head_val ?dw5 ?de5 ?dr5 ?dh5; (case' dw5 => rfl); (case' de5 => (first | exact fun _ _ _ => trivial | (intro t ht w; cases ht; simp [upE]))); (case' dr5 => (intro w' hw' _; go_simp; with_reducible rfl)); (case' dh5 => (try simp only [Act.put, List.setIfInBounds_toArray, List.set_cons_zero, List.set_cons_succ]))); (refine' head_val ?dw6 ?de6 ?dr6 ?dh6; (case' dw6 => rfl); (case' de6 => (first | exact fun _ _ _ => trivial | (intro t ht w; cases ht; simp [upE]))); (case' dr6 => (intro w' hw' _; go_simp; with_reducible rfl)); (case' dh6 => (try simp only [Act.put, List.setIfInBounds_toArray, List.set_cons_zero, List.set_cons_succ]))); (refine' head_val ?dw7 ?de7 ?dr7 ?dh7; (case' dw7 => rfl); (case' de7 => (first | exact fun _ _ _ => trivial | (intro t ht w; cases ht; simp [upE]))); (case' dr7 => (intro w' hw' _; go_simp; with_reducible rfl)); (case' dh7 => (try simp only [Act.put, List.setIfInBounds_toArray, List.set_cons_zero, List.set_cons_succ]))); (refine' head_val ?dw8 ?de8 ?dr8 ?dh8; (case' dw8 => rfl); (case' de8 => (first | exact fun _ _ _ => trivial | (intro t ht w; cases ht; simp [upE]))); (case' dr8 => (intro w' hw' _; go_simp; with_reducible rfl)); (case' dh8 => (try simp only [Act.put, List.setIfInBounds_toArray, List.set_cons_zero, List.set_cons_succ])))
      (refine' head_loadAt (x := _) rfl ?_ rfl rfl (HD.out) (S2.out) ?_; (first | exact fun _ _ _ => trivial | (intro t ht w; cases ht; simp [upE])); try simp only [Act.put, List.setIfInBounds_toArray, List.set_cons_zero, List.set_cons_succ])
      (refine' head_val ?dw9 ?de9 ?dr9 ?dh9; (case' dw9 => rfl); (case' de9 => (first | exact fun _ _ _ => trivial | (intro t ht w; cases ht; simp [upE]))); (case' dr9 => (intro w' hw' _; go_simp; with_reducible rfl)); (case' dh9 => (try simp only [Act.put, List.setIfInBounds_toArray, List.set_cons_zero, List.set_cons_succ])))
      refine head_nil ?_
      intro w1 hb _
      refine wpList_nil ?_
      replace HS := hid (HS.out.grow hb)
      clear hb hq1 hq2 HC HD wp
      generalize hzz : (s1 == s2) = zb
      rw [hzz] at HKB
      clear hzz
      cases zb with
      | false =>
        have HK2 := hid (show ∀ j, j < k + 1 → keepB xs j = true from fun j hj => by
          by_cases hjk : j = k
          · subst hjk; exact HKB.out
          · exact HK.out j (by omega))
        clear HK HKB
        go_wp2_with fail
        go_roundg (n + 1 - (k + 1))
        case rel => exact ⟨k + 1, by omega, by omega, by omega, by go_num, HK2, HS⟩
        case measure => omega
      | true =>
        have HCU := hid (show cmpUpTo xs (k + 1) = xs.take k by
          rw [cmpUpTo_succ, HKB.out, cmpUpTo_all xs k (by rw [HN.out]; omega) HK.out]
          simp)
        clear HK HKB S1 S2
        obtain ⟨n2, hn2⟩ : ∃ m, m = n - k := ⟨_, rfl⟩
        obtain ⟨c2, hc2⟩ : ∃ m, m = cap - k := ⟨_, rfl⟩
        obtain ⟨ad2, had2⟩ : ∃ a, a = ad.add (k * 32) := ⟨_, rfl⟩
        have hsl := run_idsFrom (ad := ad) (n := n) (c := cap) (k := k) (by omega) HCAP.out (by have := HCAP.out; omega)
        rw [← hn2, ← hc2, ← had2] at hsl
        have HN2E := hid hn2
        have HC2E := hid hc2
        have HAD2 := hid had2
        have n2b : (n2 : Int) ≤ 1000000 := by omega
        have N21 := hid (show 1 ≤ n2 by omega)
        have HKN := hid hlt
        clear hn2 hc2 had2 k0 k1 p0 p1 hkp hlt HP
        go_wp2_with fail
        go_loopg [3, 5] n2 (fun z v3 v5 wr => ∃ (i q : Nat) (ys : List (List UInt8)), 1 ≤ i ∧ i ≤ n2 ∧ z = n2 + 1 - i ∧ v3 = .int .i64 (q : Int) ∧ v5 = .int .i64 (i : Int) ∧ Hid (q + 1 ≤ k + i) ∧ Hid (ys.length = n) ∧ Hid (∀ s ∈ ys, s.length = 32) ∧ Hid (ys.take q = cmpUpTo xs (k + i)) ∧ Hid (ys.drop (k + i - 1) = xs.drop (k + i - 1)) ∧ Hid (StR B w0 g ys tl wr))
        case atStart => exact ⟨1, k, xs, by omega, N21.out, by omega, rfl, rfl, hid (by omega), HN, H32, hid HCU.out.symm, hid (by rw [show k + 1 - 1 = k by omega]), HS⟩
        case round =>
          clear HS HCU
          obtain ⟨i, q, ys, hi1, hi, hz2, rfl, rfl, HQ, HYN, HY32, HT, HDR, HS⟩ := hrel
          by_cases hlt : i < n2
          · obtain ⟨p2, hp2⟩ : ∃ p, p = i - 1 := ⟨_, rfl⟩
            have hip : (i : Int) - 1 = (p2 : Int) := by omega
            have k0 : (0 : Int) ≤ (i : Int) := by omega
            have k1 : (i : Int) < (n2 : Int) := by omega
            have p0 : (0 : Int) ≤ (p2 : Int) := by omega
            have p1 : (p2 : Int) < (n2 : Int) := by omega
            have HR := hid (by have := idRow_drop (HS.out.row HAD.out HY32.out (by have := HYN.out; omega)) k; rw [← HAD2.out] at this; exact this)
            have hdl : (ys.drop k).length = n2 := by rw [List.length_drop, HYN.out, HN2E.out]
            obtain ⟨_, e1, hc⟩ := HR.out.at_ i (by omega)
            cases e1
            obtain ⟨_, e1, hd⟩ := HR.out.at_ p2 (by omega)
            cases e1
            have hki : k + i < xs.length := by have := HN.out; have := HN2E.out; omega
            have ei : (ys.drop k).getD i [] = xs.getD (k + i) [] := by
              have : (ys.drop k).getD i [] = ys.getD (k + i) [] := by simp [List.getElem?_drop]
              rw [this, drop_getD [] HDR.out (by omega)]
            have ep : (ys.drop k).getD p2 [] = xs.getD (k + i - 1) [] := by
              have : (ys.drop k).getD p2 [] = ys.getD (k + p2) [] := by simp [List.getElem?_drop]
              rw [this, show k + p2 = k + i - 1 by omega, drop_getD [] HDR.out (by omega)]
            rw [ei] at hc
            rw [ep] at hd
            have HC := hid hc
            have HD := hid hd
            have S1 := hid (getD_mem_len H32.out hki)
            have S2 := hid (getD_mem_len H32.out (show k + i - 1 < xs.length by omega))
            have hq1 := fun w => id_neq (xs.getD (k + i) []) (xs.getD (k + i - 1) []) S1.out S2.out w
            have hq2 := id_guard .neq (xs.getD (k + i) []) (xs.getD (k + i - 1) [])
            have HKB := hid (show keepB xs (k + i) = !(xs.getD (k + i) [] == xs.getD (k + i - 1) []) by unfold keepB; rw [show (k + i == 0) = false by simp; omega, Bool.false_or])
            have HKX := hid (cmpUpTo_succ xs (k + i))
            clear hc hd HR ei ep hdl
            have HP2 := hid hp2
            have wp := wrap_nat p2 (by omega)
            have HKI := hid hki
            clear hp2 hki
            generalize xs.getD (k + i) [] = s1 at *
            generalize xs.getD (k + i - 1) [] = s2 at *
            have q0 : (0 : Int) ≤ (q : Int) := by omega
            have q1 : (q : Int) < (n : Int) := by have := HQ.out; have := HN2E.out; omega
            go_wp2_with fail
            (refine' wp_region_head 10 0 [_, _, _, _, _, _, _, _, _, _] rfl (by kernel_rfl) (by kernel_rfl) ?hreg10; case' hreg10 => simp only [List.take_succ_cons, List.take_zero, List.zip_cons_cons, List.zip_nil_right, List.drop_succ_cons, List.drop_zero, List.drop_nil])
            (refine' head_val ?dw11 ?de11 ?dr11 ?dh11; (case' dw11 => rfl); (case' de11 => (first | exact fun _ _ _ => trivial | (intro t ht w; cases ht; simp [upE]))); (case' dr11 => (intro w' hw' _; go_simp; with_reducible rfl)); (case' dh11 => (try simp only [Act.put, List.setIfInBounds_toArray, List.set_cons_zero, List.set_cons_succ]))); (refine' head_val ?dw12 ?de12 ?dr12 ?dh12; (case' dw12 => rfl); (case' de12 => (first | exact fun _ _ _ => trivial | (intro t ht w; cases ht; simp [upE]))); (case' dr12 => (intro w' hw' _; go_simp; with_reducible rfl)); (case' dh12 => (try simp only [Act.put, List.setIfInBounds_toArray, List.set_cons_zero, List.set_cons_succ]))); (refine' head_val ?dw13 ?de13 ?dr13 ?dh13; (case' dw13 => rfl); (case' de13 => (first | exact fun _ _ _ => trivial | (intro t ht w; cases ht; simp [upE]))); (case' dr13 => (intro w' hw' _; go_simp; with_reducible rfl)); (case' dh13 => (try simp only [Act.put, List.setIfInBounds_toArray, List.set_cons_zero, List.set_cons_succ])))
            (refine' head_loadAt (x := _) rfl ?_ rfl rfl (HC.out) (S1.out) ?_; (first | exact fun _ _ _ => trivial | (intro t ht w; cases ht; simp [upE])); try simp only [Act.put, List.setIfInBounds_toArray, List.set_cons_zero, List.set_cons_succ])
            (refine' head_val ?dw14 ?de14 ?dr14 ?dh14; (case' dw14 => rfl); (case' de14 => (first | exact fun _ _ _ => trivial | (intro t ht w; cases ht; simp [upE]))); (case' dr14 => (intro w' hw' _; go_simp; with_reducible rfl)); (case' dh14 => (try simp only [Act.put, List.setIfInBounds_toArray, List.set_cons_zero, List.set_cons_succ]))); (refine' head_val ?dw15 ?de15 ?dr15 ?dh15; (case' dw15 => rfl); (case' de15 => (first | exact fun _ _ _ => trivial | (intro t ht w; cases ht; simp [upE]))); (case' dr15 => (intro w' hw' _; go_simp; with_reducible rfl)); (case' dh15 => (try simp only [Act.put, List.setIfInBounds_toArray, List.set_cons_zero, List.set_cons_succ]))); (refine' head_val ?dw16 ?de16 ?dr16 ?dh16; (case' dw16 => rfl); (case' de16 => (first | exact fun _ _ _ => trivial | (intro t ht w; cases ht; simp [upE]))); (case' dr16 => (intro w' hw' _; go_simp; with_reducible rfl)); (case' dh16 => (try simp only [Act.put, List.setIfInBounds_toArray, List.set_cons_zero, List.set_cons_succ]))); (refine' head_val ?dw17 ?de17 ?dr17 ?dh17; (case' dw17 => rfl); (case' de17 => (first | exact fun _ _ _ => trivial | (intro t ht w; cases ht; simp [upE]))); (case' dr17 => (intro w' hw' _; go_simp; with_reducible rfl)); (case' dh17 => (try simp only [Act.put, List.setIfInBounds_toArray, List.set_cons_zero, List.set_cons_succ])))
            (refine' head_loadAt (x := _) rfl ?_ rfl rfl (HD.out) (S2.out) ?_; (first | exact fun _ _ _ => trivial | (intro t ht w; cases ht; simp [upE])); try simp only [Act.put, List.setIfInBounds_toArray, List.set_cons_zero, List.set_cons_succ])
            (refine' head_val ?dw18 ?de18 ?dr18 ?dh18; (case' dw18 => rfl); (case' de18 => (first | exact fun _ _ _ => trivial | (intro t ht w; cases ht; simp [upE]))); (case' dr18 => (intro w' hw' _; go_simp; with_reducible rfl)); (case' dh18 => (try simp only [Act.put, List.setIfInBounds_toArray, List.set_cons_zero, List.set_cons_succ])))
            refine head_nil ?_
            intro w1 hb _
            refine wpList_nil ?_
            replace HS := hid (HS.out.grow hb)
            have HCB := hid (fun j v hv => grow_cell (HC.out j v hv) hb)
            clear hb hq1 hq2 HC HD wp
            generalize hzz : (!(s1 == s2)) = zb
            rw [hzz] at HKB
            clear hzz
            cases zb with
            | false =>
              have HT2 := hid (show ys.take q = cmpUpTo xs (k + (i + 1)) by rw [← Nat.add_assoc, HKX.out, HKB.out, HT.out]; simp)
              have HD2 := hid (show ys.drop (k + (i + 1) - 1) = xs.drop (k + (i + 1) - 1) by
                have := congrArg (List.drop 1) HDR.out
                rw [List.drop_drop, List.drop_drop] at this
                rw [show k + (i + 1) - 1 = k + i - 1 + 1 by omega]
                exact this)
              have HQ2 := hid (show q + 1 ≤ k + (i + 1) by have := HQ.out; omega)
              clear HKB HKX HT HDR HQ HCB
              go_wp2_with fail
              go_roundg (n2 + 1 - (i + 1))
              case rel => exact ⟨i + 1, q, ys, by omega, by omega, by omega, rfl, by go_num, HQ2, HYN, HY32, HT2, HD2, HS⟩
              case measure => omega
            | true =>
              have HQL := hid (show q < ys.length by rw [HYN.out]; omega)
              have HT2 := hid (show (ys.set q s1).take (q + 1) = cmpUpTo xs (k + (i + 1)) by rw [← Nat.add_assoc, HKX.out, HKB.out, take_set_at _ _ _ HQL.out, HT.out]; simp)
              have HD2 := hid (show (ys.set q s1).drop (k + (i + 1) - 1) = xs.drop (k + (i + 1) - 1) by
                rw [drop_set_lt _ _ _ _ (by have := HQ.out; omega)]
                have := congrArg (List.drop 1) HDR.out
                rw [List.drop_drop, List.drop_drop] at this
                rw [show k + (i + 1) - 1 = k + i - 1 + 1 by omega]
                exact this)
              have HQ2 := hid (show q + 1 + 1 ≤ k + (i + 1) by have := HQ.out; omega)
              have HY2 := hid (show (ys.set q s1).length = n by rw [List.length_set]; exact HYN.out)
              have HY3 := hid (show ∀ s ∈ ys.set q s1, s.length = 32 from fun s hs => by
                rcases List.mem_or_eq_of_mem_set hs with h | rfl
                · exact HY32.out s h
                · exact S1.out)
              clear HKB HKX HT HDR HQ
              go_wp2_with (first | (refine op_loadAt (l := s1) rfl rfl rfl HCB.out S1.out ?_) | (refine op_storeSt q s1 rfl rfl rfl rfl HAD.out rfl S1.out HS.out HBG.out HY32.out HQL.out ?_))
              intro w2 hs2
              replace HS := hid hs2
              clear hs2
              go_wp2_with fail
              go_roundg (n2 + 1 - (i + 1))
              case rel => exact ⟨i + 1, q + 1, ys.set q s1, by omega, by omega, by omega, by go_num, by go_num, HQ2, HY2, HY3, HT2, HD2, HS⟩
              case measure => omega
          · obtain rfl : i = n2 := by omega
            have HKI := hid (show k + i = n by have := HN2E.out; have := HKN.out; omega)
            have HCL := hid (show ys.take q = compactL xs by rw [HT.out, compactL, HN.out, HKI.out])
            have HQN := hid (show q + 1 ≤ n by have := HQ.out; have := HKI.out; omega)
            have HQE := hid (show q = (compactL xs).length by rw [← HCL.out, List.length_take, HYN.out]; have := HQN.out; omega)
            obtain ⟨n3, hn3⟩ : ∃ m, m = n - q := ⟨_, rfl⟩
            obtain ⟨c3, hc3⟩ : ∃ m, m = cap - q := ⟨_, rfl⟩
            obtain ⟨ad3, had3⟩ : ∃ a, a = ad.add (q * 32) := ⟨_, rfl⟩
            have hsl3 := run_idsFrom (ad := ad) (n := n) (c := cap) (k := q) (by have := HQN.out; omega) HCAP.out (by have := HCAP.out; have := HQN.out; omega)
            rw [← hn3, ← hc3, ← had3] at hsl3
            have hsl4 := run_idsTo (ad := ad) (n := n) (c := cap) (k := q) (by have := HCAP.out; have := HQN.out; omega)
            have HAD3 := hid (show ad3 = ⟨g, q * 32, none⟩ by rw [had3, HAD.out]; unfold Addr.add; split <;> simp_all)
            have HN3 := hid hn3
            have hLEN := idCells_length ys HY32.out
            have HLEN := hid hLEN
            have HFT := hid (show q * 32 + n3 * 32 ≤ (idCells ys ++ tl).length by rw [List.length_append, HLEN.out, HYN.out, HN3.out]; have := HQN.out; omega)
            have HM3 := hid (show 0 < n3 by have := HN3.out; have := HQN.out; omega)
            clear hn3 hc3 had3 hLEN HT HDR
            go_wp2_with (first | (refine op_clearIds rfl rfl rfl rfl HAD3.out HS.out.blk HFT.out HM3.out ?_) | fail)
            intro w3 zs hzl hblk hgb hbl
            have HB3 := hid (hbl _ _ HS.out.bel HBG.out)
            have HS3 := hid (Nat.le_trans HS.out.sz hgb.size)
            have HBK := hid (show w3.heap[g]? = some (.cells (idCells (compactL xs) ++ (zs ++ tl)).toArray 23 (0, 0)) by
              rw [hblk]
              congr 3
              have e1 : (idCells ys ++ tl).take (q * 32) = idCells (compactL xs) := by
                rw [← HCL.out, List.take_append_of_le_length (by rw [HLEN.out, HYN.out]; have := HQN.out; omega)]
                conv => lhs; rw [← List.take_append_drop q ys, idCells_append]
                have hl := idCells_length (ys.take q) (fun s hs => HY32.out s (List.mem_of_mem_take hs))
                rw [List.length_take, HYN.out, Nat.min_eq_left (by have := HQN.out; omega)] at hl
                rw [← hl, List.take_left]
              have e2 : (idCells ys ++ tl).drop (q * 32 + n3 * 32) = tl := by
                have : q * 32 + n3 * 32 = (idCells ys).length := by rw [HLEN.out, HYN.out, HN3.out]; have := HQN.out; omega
                rw [this, List.drop_left]
              rw [e1, e2, List.append_assoc])
            have HZL := hid hzl
            clear hzl hblk hgb hbl
            go_wp2_with fail
            go_ret
            refine ⟨zs, ?_, ?_, ⟨HB3.out, HS3.out, HBK.out⟩⟩
            · rw [HZL.out, HN3.out, HQE.out]
            · rw [← HQE.out]
              rfl
    · obtain rfl : k = n := by omega
      have HCL := hid (show compactL xs = xs by
        unfold compactL
        rw [HN.out, cmpUpTo_all xs k (by rw [HN.out]; omega) HK.out, ← HN.out, List.take_length])
      go_wp2_with fail
      go_ret
      refine ⟨[], ?_, ?_, ?_⟩
      · rw [HCL.out, HN.out]; simp
      · rw [HCL.out, HN.out]; rfl
      · rw [HCL.out]; exact HS.out
end Go.Proofs.Ytffgifegaagndaa
