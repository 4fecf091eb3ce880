/- diff.table: contract. -/
import Derived.Test.YtkbapegohodcgaaQDif4
set_option linter.unusedSimpArgs false
set_option linter.unusedVariables false
namespace Go.Proofs.Ytkbapegohodcgaa
open Go.RowKit
open Go.Qk hiding rotr b4
set_option maxHeartbeats 4000000
set_option maxRecDepth 100000
theorem infoInt1 : (Try.prog.info? 3).map (fun i => (i.zero, i.size, i.bytes)) = some (some (.int .i64 0), 1, 8) := by kernel_rfl
theorem infoInts1 : (Try.prog.info? 73).map (fun i => (i.zero, i.size, i.bytes)) = some (some (.slice none 0 0), 1, 24) := by kernel_rfl
theorem infoIntS : (Try.prog.info? 3).map (·.size) = some 1 := by kernel_rfl
theorem infoIntsS : (Try.prog.info? 73).map (·.size) = some 1 := by kernel_rfl
theorem addr_add0 (g k : Nat) : (⟨g, 0, none⟩ : Addr).add k = ⟨g, k, none⟩ := by unfold Addr.add; split <;> simp_all
/-- The table while it is filled: p rows remain, of the last of them q columns. -/
def valT (xs ys : List ByteArray) (p q a b : Nat) : Nat := if p ≤ a ∨ (p = a + 1 ∧ q ≤ b) then Dif.kAt xs ys a b else 0
theorem valT_step (xs ys : List ByteArray) (a b v : Nat) (hv : v = Dif.kAt xs ys a b) (x y : Nat) : (if x = a ∧ y = b then v else valT xs ys (a + 1) (b + 1) x y) = valT xs ys (a + 1) b x y := by
  unfold valT
  by_cases e : x = a ∧ y = b
  · obtain ⟨rfl, rfl⟩ := e
    simp [hv]
  · rw [if_neg e]
    by_cases e2 : a + 1 ≤ x ∨ (a + 1 = x + 1 ∧ b + 1 ≤ y)
    · rw [if_pos e2, if_pos (by omega)]
    · rw [if_neg e2, if_neg (by omega)]
theorem kAt_le (xs ys : List ByteArray) (a b : Nat) : Dif.kAt xs ys a b ≤ xs.length := by
  unfold Dif.kAt
  have := Dif.lcs_le_l (xs.drop a) (ys.drop b)
  rw [List.length_drop] at this
  omega
theorem arr_rep (m : Nat) (v : Value) (f : Nat → Value) (h : ∀ i, i < m → f i = v) : Array.replicate m v = ((List.range m).map f).toArray := by
  apply Array.ext'
  rw [Array.toList_replicate]
  apply List.ext_getElem (by simp)
  intro i h1 h2
  simp only [List.getElem_replicate, List.getElem_map, List.getElem_range]
  exact (h i (by simpa using h1)).symm
theorem tabMake (A B : Option Addr) (n m c d : Nat) (xs ys : List ByteArray) (w : World) (hx : StrRow w A xs) (hy : StrRow w B ys) (hn : xs.length = n) (hm : ys.length = m) (hn1 : n ≤ 1000) (hm1 : m ≤ 1000) :
    Calls Try.prog 96 #[.slice A n c, .slice B m d] w fun e w' => ∃ o r, e = .returned (.slice (some ⟨o, 0, none⟩) (n + 1) (n + 1)) ∧ TabAt w' o r (n + 1) (m + 1) (Dif.kAt xs ys) ∧ w.heap.size ≤ o ∧ Below w.heap.size w w' := by
  have HX := hid hx
  have HY := hid hy
  have HN := hid hn
  have HM := hid hm
  clear hx hy hn hm
  obtain ⟨N, hN⟩ : ∃ N, N = n + 1 := ⟨_, rfl⟩
  obtain ⟨M, hM⟩ : ∃ M, M = m + 1 := ⟨_, rfl⟩
  rw [← hN, ← hM]
  have n0 : (0 : Int) ≤ (n : Int) := by omega
  have n1 : (n : Int) ≤ 1000 := by omega
  have m0 : (0 : Int) ≤ (m : Int) := by omega
  have m1 : (m : Int) ≤ 1000 := by omega
  have hN1 : N ≤ 1001 := by omega
  have hM1 : M ≤ 1001 := by omega
  go_enter Try.func96, Try.ntmps96
  have HB := hid (grow_refl w)
  go_wp2_with (first | (refine op_makeN (n := n + 1) rfl rfl rfl rfl Try.underlying74 infoInts1 rfl rfl (by decide) (by omega) (by omega) ?_) | fail)
  intro o w1 hgl hgu hb hr
  have HT0 := hid (show TabMk w w1 o (fun _ => 0) N M 0 from ⟨by rw [hr, ← hN]; exact congrArg (fun x => some (Obj.cells x _ _)) (arr_rep N _ _ (fun i hi => by simp)), fun a ha => by omega, fun a ha => by omega, fun a b ha => by omega, hgl, fun a ha => by omega, hb⟩)
  clear hgl hgu hb hr HB
  go_wp2_with fail
  go_loopg [15] (N + 1) (fun z i wr => ∃ (k : Nat) (r : Nat → Nat), k ≤ N ∧ z = N + 1 - k ∧ i = .int .i64 (k : Int) ∧ Hid (TabMk w wr o r N M k))
  case atStart => exact ⟨0, _, by omega, by omega, rfl, HT0⟩
  case round =>
    clear HT0
    obtain ⟨k, r, hk, hz, rfl, HT⟩ := hrel
    by_cases hlt : k < N
    · have k0 : (0 : Int) ≤ (k : Int) := by omega
      have k1 : (k : Int) < (N : Int) := by omega
      go_wp2_with (first | (refine op_makeN (n := m + 1) rfl rfl rfl rfl Try.underlying73 infoInt1 rfl rfl (by decide) (by omega) (by omega) ?_) | fail)
      intro g w2 hgl hgu hb hr
      have HR := hid (show w2.heap[g]? = some (.cells (rowV (fun _ => 0) M).toArray 3 (0, 0)) by rw [hr, ← hM]; exact congrArg (fun x => some (Obj.cells x _ _)) (arr_rep M _ _ (fun i hi => rfl)))
      have HB2 := hid hb
      have HGL := hid hgl
      clear hgl hgu hb hr
      go_wp2_with (first | (refine op_store1 (g := o) (i := k) (v := ptrRow g M) rfl rfl rfl (by first | rfl | (rw [← addr_add0]; rfl) | simp) (by rw [hM]; rfl) (grow_block HT.out.out HB2.out) rfl rfl infoIntsS (by simp; omega) ?_) | fail)
      intro w3 hW hgr hbel
      have HT2 := hid (HT.out.step hlt HB2.out HGL.out HR.out hW hgr hbel)
      clear hW hgr hbel HT HR HB2 HGL
      go_wp2_with fail
      go_roundg (N + 1 - (k + 1))
      case rel => exact ⟨k + 1, _, by omega, rfl, by go_num, HT2⟩
      case measure => omega
    · obtain rfl : N = k := by omega
      have HO := hid HT.out.low
      have HBW := hid HT.out.bel
      have HLO := hid HT.out.lows
      have HT1 := hid (HT.out.done.congr (U := valT xs ys n m) (fun a b ha hb => by
        unfold valT
        rw [← HN.out, ← HM.out]
        by_cases e : xs.length ≤ a
        · rw [Dif.kAt_end_l _ _ _ _ e]; simp
        · by_cases e2 : ys.length ≤ b
          · rw [Dif.kAt_end_r _ _ _ _ e2]; simp
          · rw [if_neg (by omega)]))
      have HNN := hid hN
      have HMM := hid hM
      clear HT hlt hk hz
      go_wp2_with fail
      clear hN hM
      go_loopg [7] (n + 1) (fun z i wr => ∃ p : Nat, p ≤ n ∧ z = p + 1 ∧ i = .int .i64 ((p : Int) - 1) ∧ Hid (TabAt wr o r N M (valT xs ys p m)) ∧ Hid (Below w.heap.size w wr))
      case atStart => exact ⟨n, by omega, by omega, rfl, HT1, HBW⟩
      case round =>
        clear HT1 HBW
        obtain ⟨p, hp, hz, rfl, HT, HBW⟩ := hrel
        cases p with
        | zero =>
          have HF := hid (HT.out.congr (U := Dif.kAt xs ys) (fun a b ha hb => by unfold valT; simp))
          go_wp2_with fail
          go_ret
          exact ⟨o, r, by rw [HNN.out]; rfl, HF.out, HO.out, HBW.out⟩
        | succ a =>
          rw [show (((a + 1 : Nat) : Int) - 1) = (a : Int) by omega]
          have a0 : (0 : Int) ≤ (a : Int) := by omega
          have a1 : (a : Int) < (n : Int) := by omega
          go_wp2_with fail
          go_loopg [8] (m + 1) (fun z i wr2 => ∃ q : Nat, q ≤ m ∧ z = q + 1 ∧ i = .int .i64 ((q : Int) - 1) ∧ Hid (TabAt wr2 o r N M (valT xs ys (a + 1) q)) ∧ Hid (Below w.heap.size w wr2))
          case atStart => exact ⟨m, by omega, by omega, rfl, HT, HBW⟩
          case round =>
            clear HT HBW
            obtain ⟨q, hq, hz2, rfl, HT, HBW⟩ := hrel
            cases q with
            | zero =>
              have HF := hid (HT.out.congr (U := valT xs ys a m) (fun x y hx hy => by
                unfold valT
                by_cases e : x = a
                · subst e; simp
                · by_cases e2 : a + 1 ≤ x
                  · simp [e2, show a ≤ x by omega]
                  · simp [e2, show ¬ a ≤ x by omega, show ¬ a = x by omega]
                    intro _ h3
                    rw [Dif.kAt_end_r _ _ _ _ (by rw [HM.out]; exact h3)]))
              clear HT
              go_wp2_with fail
              go_roundg (a + 1)
              case rel => exact ⟨a, by omega, rfl, by go_num, HF, HBW⟩
              case measure => omega
            | succ b =>
              rw [show (((b + 1 : Nat) : Int) - 1) = (b : Int) by omega]
              have b0 : (0 : Int) ≤ (b : Int) := by omega
              have b1 : (b : Int) < (m : Int) := by omega
              have HV1 := hid (show valT xs ys (a + 1) (b + 1) (a + 1) b = Dif.kAt xs ys (a + 1) b by unfold valT; simp)
              have HV2 := hid (show valT xs ys (a + 1) (b + 1) a (b + 1) = Dif.kAt xs ys a (b + 1) by unfold valT; simp)
              have HV3 := hid (show valT xs ys (a + 1) (b + 1) (a + 1) (b + 1) = Dif.kAt xs ys (a + 1) (b + 1) by unfold valT; simp)
              have a2 : (a : Int) < (n : Int) + 1 := by omega
              have a3 : (a : Int) + 1 < (n : Int) + 1 := by omega
              have a4 : (0 : Int) ≤ (a : Int) + 1 := by omega
              have b2 : (b : Int) < (m : Int) + 1 := by omega
              have b3 : (b : Int) + 1 < (m : Int) + 1 := by omega
              have b4 : (0 : Int) ≤ (b : Int) + 1 := by omega
              have wa : IntKind.i64.wrap ((a : Int) + 1) = (a : Int) + 1 := by simp [IntKind.wrap, IntKind.signed, IntKind.bits]; omega
              have wb : IntKind.i64.wrap ((b : Int) + 1) = (b : Int) + 1 := by simp [IntKind.wrap, IntKind.signed, IntKind.bits]; omega
              have ta : ((a : Int) + 1).toNat = a + 1 := by omega
              have tb : ((b : Int) + 1).toNat = b + 1 := by omega
              go_wp2_with fail
              refine wp_region_floatG (fun W => TabAt W o r N M (valT xs ys (a + 1) (b + 1))) [0,1,2,3,4,5,6,7,8,9,10,11,12,13,14,15,16,17,18,19,20,21,22] [] [23] rfl (by kernel_rfl) rfl (by kernel_rfl) (by kernel_rfl) ?_
              intro wf1 hb
              replace HT := hid (HT.out.grow hb)
              replace HBW := hid (Grow.trans HBW.out hb)
              clear hb
              refine ⟨HT.out, ?_⟩
              (refine' pickT_val ?po1 ?pw1 ?pr1 ?pq1 ?ph1; (case' po1 => exact rfl); (case' pw1 => rfl); (case' pq1 => (exact fun _ _ _ h => h)); (case' pr1 => (intro w' hw'; go_simp; with_reducible rfl)); (case' ph1 => (try simp only [List.getElem_toArray, List.getElem_cons_zero, List.getElem_cons_succ, Act.put, List.setIfInBounds_toArray, List.set_cons_zero, List.set_cons_succ]))); (refine' pickT_val ?po2 ?pw2 ?pr2 ?pq2 ?ph2; (case' po2 => exact rfl); (case' pw2 => rfl); (case' pq2 => (exact fun _ _ _ h => h)); (case' pr2 => (intro w' hw'; go_simp; with_reducible rfl)); (case' ph2 => (try simp only [List.getElem_toArray, List.getElem_cons_zero, List.getElem_cons_succ, Act.put, List.setIfInBounds_toArray, List.set_cons_zero, List.set_cons_succ]))); (refine' pickT_val ?po3 ?pw3 ?pr3 ?pq3 ?ph3; (case' po3 => exact rfl); (case' pw3 => rfl); (case' pq3 => (exact fun _ _ _ h => h)); (case' pr3 => (intro w' hw'; go_simp; with_reducible rfl)); (case' ph3 => (try simp only [List.getElem_toArray, List.getElem_cons_zero, List.getElem_cons_succ, Act.put, List.setIfInBounds_toArray, List.set_cons_zero, List.set_cons_succ])))
              (refine' pickT_val (v := (.slice (some ⟨r a, 0, none⟩) (m + 1) (m + 1))) ?po4 ?pw4 ?pr4 ?pq4 ?ph4; (case' po4 => exact rfl); (case' pw4 => rfl); (case' pq4 => (exact fun _ _ _ h => h)); (case' pr4 => (intro w' hw'; exact run_opLoad1 rfl rfl (by rw [← HMM.out]; exact hw'.cellRow (show a < N by have := HNN.out; omega)) Try.underlying73 rfl)); (case' ph4 => (try simp only [List.getElem_toArray, List.getElem_cons_zero, List.getElem_cons_succ, Act.put, List.setIfInBounds_toArray, List.set_cons_zero, List.set_cons_succ])))
              (refine' pickT_val ?po5 ?pw5 ?pr5 ?pq5 ?ph5; (case' po5 => exact rfl); (case' pw5 => rfl); (case' pq5 => (exact fun _ _ _ h => h)); (case' pr5 => (intro w' hw'; go_simp; with_reducible rfl)); (case' ph5 => (try simp only [List.getElem_toArray, List.getElem_cons_zero, List.getElem_cons_succ, Act.put, List.setIfInBounds_toArray, List.set_cons_zero, List.set_cons_succ]))); (refine' pickT_val ?po6 ?pw6 ?pr6 ?pq6 ?ph6; (case' po6 => exact rfl); (case' pw6 => rfl); (case' pq6 => (exact fun _ _ _ h => h)); (case' pr6 => (intro w' hw'; go_simp; with_reducible rfl)); (case' ph6 => (try simp only [List.getElem_toArray, List.getElem_cons_zero, List.getElem_cons_succ, Act.put, List.setIfInBounds_toArray, List.set_cons_zero, List.set_cons_succ]))); (refine' pickT_val ?po7 ?pw7 ?pr7 ?pq7 ?ph7; (case' po7 => exact rfl); (case' pw7 => rfl); (case' pq7 => (exact fun _ _ _ h => h)); (case' pr7 => (intro w' hw'; go_simp; with_reducible rfl)); (case' ph7 => (try simp only [List.getElem_toArray, List.getElem_cons_zero, List.getElem_cons_succ, Act.put, List.setIfInBounds_toArray, List.set_cons_zero, List.set_cons_succ]))); (refine' pickT_val ?po8 ?pw8 ?pr8 ?pq8 ?ph8; (case' po8 => exact rfl); (case' pw8 => rfl); (case' pq8 => (exact fun _ _ _ h => h)); (case' pr8 => (intro w' hw'; go_simp; with_reducible rfl)); (case' ph8 => (try simp only [List.getElem_toArray, List.getElem_cons_zero, List.getElem_cons_succ, Act.put, List.setIfInBounds_toArray, List.set_cons_zero, List.set_cons_succ]))); (refine' pickT_val ?po9 ?pw9 ?pr9 ?pq9 ?ph9; (case' po9 => exact rfl); (case' pw9 => rfl); (case' pq9 => (exact fun _ _ _ h => h)); (case' pr9 => (intro w' hw'; go_simp; with_reducible rfl)); (case' ph9 => (try simp only [List.getElem_toArray, List.getElem_cons_zero, List.getElem_cons_succ, Act.put, List.setIfInBounds_toArray, List.set_cons_zero, List.set_cons_succ])))
              (refine' pickT_val (v := (.slice (some ⟨r (a + 1), 0, none⟩) (m + 1) (m + 1))) ?po10 ?pw10 ?pr10 ?pq10 ?ph10; (case' po10 => exact rfl); (case' pw10 => rfl); (case' pq10 => (exact fun _ _ _ h => h)); (case' pr10 => (intro w' hw'; exact run_opLoad1 rfl rfl (by rw [← HMM.out]; exact hw'.cellRow (show a + 1 < N by have := HNN.out; omega)) Try.underlying73 rfl)); (case' ph10 => (try simp only [List.getElem_toArray, List.getElem_cons_zero, List.getElem_cons_succ, Act.put, List.setIfInBounds_toArray, List.set_cons_zero, List.set_cons_succ])))
              (refine' pickT_val ?po11 ?pw11 ?pr11 ?pq11 ?ph11; (case' po11 => exact rfl); (case' pw11 => rfl); (case' pq11 => (exact fun _ _ _ h => h)); (case' pr11 => (intro w' hw'; go_simp; with_reducible rfl)); (case' ph11 => (try simp only [List.getElem_toArray, List.getElem_cons_zero, List.getElem_cons_succ, Act.put, List.setIfInBounds_toArray, List.set_cons_zero, List.set_cons_succ]))); (refine' pickT_val ?po12 ?pw12 ?pr12 ?pq12 ?ph12; (case' po12 => exact rfl); (case' pw12 => rfl); (case' pq12 => (exact fun _ _ _ h => h)); (case' pr12 => (intro w' hw'; go_simp; with_reducible rfl)); (case' ph12 => (try simp only [List.getElem_toArray, List.getElem_cons_zero, List.getElem_cons_succ, Act.put, List.setIfInBounds_toArray, List.set_cons_zero, List.set_cons_succ])))
              (refine' pickT_val (v := (.int .i64 (valT xs ys (a + 1) (b + 1) (a + 1) b : Int))) ?po13 ?pw13 ?pr13 ?pq13 ?ph13; (case' po13 => exact rfl); (case' pw13 => rfl); (case' pq13 => (exact fun _ _ _ h => h)); (case' pr13 => (intro w' hw'; exact run_opLoad1 rfl rfl (hw'.cellVal (show a + 1 < N by have := HNN.out; omega) (show b < M by have := HMM.out; omega)) Try.underlying3 rfl)); (case' ph13 => (try simp only [List.getElem_toArray, List.getElem_cons_zero, List.getElem_cons_succ, Act.put, List.setIfInBounds_toArray, List.set_cons_zero, List.set_cons_succ])))
              (refine' pickT_val ?po14 ?pw14 ?pr14 ?pq14 ?ph14; (case' po14 => exact rfl); (case' pw14 => rfl); (case' pq14 => (exact fun _ _ _ h => h)); (case' pr14 => (intro w' hw'; go_simp; with_reducible rfl)); (case' ph14 => (try simp only [List.getElem_toArray, List.getElem_cons_zero, List.getElem_cons_succ, Act.put, List.setIfInBounds_toArray, List.set_cons_zero, List.set_cons_succ]))); (refine' pickT_val ?po15 ?pw15 ?pr15 ?pq15 ?ph15; (case' po15 => exact rfl); (case' pw15 => rfl); (case' pq15 => (exact fun _ _ _ h => h)); (case' pr15 => (intro w' hw'; go_simp; with_reducible rfl)); (case' ph15 => (try simp only [List.getElem_toArray, List.getElem_cons_zero, List.getElem_cons_succ, Act.put, List.setIfInBounds_toArray, List.set_cons_zero, List.set_cons_succ]))); (refine' pickT_val ?po16 ?pw16 ?pr16 ?pq16 ?ph16; (case' po16 => exact rfl); (case' pw16 => rfl); (case' pq16 => (exact fun _ _ _ h => h)); (case' pr16 => (intro w' hw'; go_simp; with_reducible rfl)); (case' ph16 => (try simp only [List.getElem_toArray, List.getElem_cons_zero, List.getElem_cons_succ, Act.put, List.setIfInBounds_toArray, List.set_cons_zero, List.set_cons_succ])))
              (refine' pickT_val (v := (.slice (some ⟨r a, 0, none⟩) (m + 1) (m + 1))) ?po17 ?pw17 ?pr17 ?pq17 ?ph17; (case' po17 => exact rfl); (case' pw17 => rfl); (case' pq17 => (exact fun _ _ _ h => h)); (case' pr17 => (intro w' hw'; exact run_opLoad1 rfl rfl (by rw [← HMM.out]; exact hw'.cellRow (show a < N by have := HNN.out; omega)) Try.underlying73 rfl)); (case' ph17 => (try simp only [List.getElem_toArray, List.getElem_cons_zero, List.getElem_cons_succ, Act.put, List.setIfInBounds_toArray, List.set_cons_zero, List.set_cons_succ])))
              (refine' pickT_val ?po18 ?pw18 ?pr18 ?pq18 ?ph18; (case' po18 => exact rfl); (case' pw18 => rfl); (case' pq18 => (exact fun _ _ _ h => h)); (case' pr18 => (intro w' hw'; go_simp; with_reducible rfl)); (case' ph18 => (try simp only [List.getElem_toArray, List.getElem_cons_zero, List.getElem_cons_succ, Act.put, List.setIfInBounds_toArray, List.set_cons_zero, List.set_cons_succ]))); (refine' pickT_val ?po19 ?pw19 ?pr19 ?pq19 ?ph19; (case' po19 => exact rfl); (case' pw19 => rfl); (case' pq19 => (exact fun _ _ _ h => h)); (case' pr19 => (intro w' hw'; go_simp; with_reducible rfl)); (case' ph19 => (try simp only [List.getElem_toArray, List.getElem_cons_zero, List.getElem_cons_succ, Act.put, List.setIfInBounds_toArray, List.set_cons_zero, List.set_cons_succ]))); (refine' pickT_val ?po20 ?pw20 ?pr20 ?pq20 ?ph20; (case' po20 => exact rfl); (case' pw20 => rfl); (case' pq20 => (exact fun _ _ _ h => h)); (case' pr20 => (intro w' hw'; go_simp; with_reducible rfl)); (case' ph20 => (try simp only [List.getElem_toArray, List.getElem_cons_zero, List.getElem_cons_succ, Act.put, List.setIfInBounds_toArray, List.set_cons_zero, List.set_cons_succ])))
              (refine' pickT_val (v := (.int .i64 (valT xs ys (a + 1) (b + 1) a (b + 1) : Int))) ?po21 ?pw21 ?pr21 ?pq21 ?ph21; (case' po21 => exact rfl); (case' pw21 => rfl); (case' pq21 => (exact fun _ _ _ h => h)); (case' pr21 => (intro w' hw'; exact run_opLoad1 rfl rfl (hw'.cellVal (show a < N by have := HNN.out; omega) (show b + 1 < M by have := HMM.out; omega)) Try.underlying3 rfl)); (case' ph21 => (try simp only [List.getElem_toArray, List.getElem_cons_zero, List.getElem_cons_succ, Act.put, List.setIfInBounds_toArray, List.set_cons_zero, List.set_cons_succ])))
              (refine' pickT_val ?po22 ?pw22 ?pr22 ?pq22 ?ph22; (case' po22 => exact rfl); (case' pw22 => rfl); (case' pq22 => (exact fun _ _ _ h => h)); (case' pr22 => (intro w' hw'; go_simp; with_reducible rfl)); (case' ph22 => (try simp only [List.getElem_toArray, List.getElem_cons_zero, List.getElem_cons_succ, Act.put, List.setIfInBounds_toArray, List.set_cons_zero, List.set_cons_succ]))); (refine' pickT_val ?po23 ?pw23 ?pr23 ?pq23 ?ph23; (case' po23 => exact rfl); (case' pw23 => rfl); (case' pq23 => (exact fun _ _ _ h => h)); (case' pr23 => (intro w' hw'; go_simp; with_reducible rfl)); (case' ph23 => (try simp only [List.getElem_toArray, List.getElem_cons_zero, List.getElem_cons_succ, Act.put, List.setIfInBounds_toArray, List.set_cons_zero, List.set_cons_succ])))
              refine pickT_nil ?_
              refine seqT_nil ?_
              show wpList _ _ _ (_ :: []) _ _
              have HFT := hid (show b < (rowV (valT xs ys (a + 1) (b + 1) a) M).toArray.size by have := HMM.out; simp [rowV]; omega)
              refine op_store1 (g := r a) (i := b) (v := .int .i64 ((max (valT xs ys (a + 1) (b + 1) (a + 1) b) (valT xs ys (a + 1) (b + 1) a (b + 1)) : Nat) : Int)) rfl rfl rfl rfl (by first | rfl | (go_simp; omega)) (HT.out.row a (by have := HNN.out; omega)) rfl rfl infoIntS HFT.out ?_
              intro w3 hW hgr hbel
              have HT3 := hid (HT.out.set (show a < N by have := HNN.out; omega) hW hgr)
              have HB3 := hid (hbel _ _ HBW.out (HLO.out a (by have := HNN.out; omega)))
              clear hW hgr hbel HT HBW HFT
              have HST := hid (Dif.kAt_step ByteArray.empty xs ys a b (by rw [HN.out]; omega) (by rw [HM.out]; omega))
              have hk3 := kAt_le xs ys (a + 1) (b + 1)
              rw [HN.out] at hk3
              rw [HV1.out, HV2.out] at HT3
              rw [← HV3.out] at hk3
              generalize hVV : (fun x y => if x = a ∧ y = b then max (Dif.kAt xs ys (a + 1) b) (Dif.kAt xs ys a (b + 1)) else valT xs ys (a + 1) (b + 1) x y) = V at HT3
              have HVV := hid hVV
              have HE1 := hid (show V a b = max (Dif.kAt xs ys (a + 1) b) (Dif.kAt xs ys a (b + 1)) by rw [← hVV]; simp)
              have HE3 := hid (show V (a + 1) (b + 1) = Dif.kAt xs ys (a + 1) (b + 1) by rw [← hVV]; simp [HV3.out])
              have hk4 : V (a + 1) (b + 1) ≤ 1000 := by rw [HE3.out, ← HV3.out]; omega
              clear hVV hk3 HV1 HV2 HV3
              obtain ⟨ad, rfl, hc⟩ := (HX.out.grow HB3.out).at_ a (by rw [HN.out]; omega)
              obtain ⟨bd, rfl, hd⟩ := (HY.out.grow HB3.out).at_ b (by rw [HM.out]; omega)
              have HC := hid hc
              have HD := hid hd
              clear hc hd
              generalize xs.getD a ByteArray.empty = x at *
              generalize ys.getD b ByteArray.empty = y at *
              go_wp2_with fail
              (refine' wp_region_head 9 0 [_, _, _, _, _, _, _, _, _] rfl (by kernel_rfl) (by kernel_rfl) ?hreg24; case' hreg24 => simp only [List.take_succ_cons, List.take_zero, List.zip_cons_cons, List.zip_nil_right, List.drop_succ_cons, List.drop_zero, List.drop_nil])
              (refine' head_val ?dw25 ?de25 ?dr25 ?dh25; (case' dw25 => rfl); (case' de25 => (first | exact fun _ _ _ => trivial | (intro t ht w; cases ht; simp [upE]))); (case' dr25 => (intro w' hw' _; go_simp; with_reducible rfl)); (case' dh25 => (try simp only [Act.put, List.setIfInBounds_toArray, List.set_cons_zero, List.set_cons_succ]))); (refine' head_val ?dw26 ?de26 ?dr26 ?dh26; (case' dw26 => rfl); (case' de26 => (first | exact fun _ _ _ => trivial | (intro t ht w; cases ht; simp [upE]))); (case' dr26 => (intro w' hw' _; go_simp; with_reducible rfl)); (case' dh26 => (try simp only [Act.put, List.setIfInBounds_toArray, List.set_cons_zero, List.set_cons_succ]))); (refine' head_val ?dw27 ?de27 ?dr27 ?dh27; (case' dw27 => rfl); (case' de27 => (first | exact fun _ _ _ => trivial | (intro t ht w; cases ht; simp [upE]))); (case' dr27 => (intro w' hw' _; go_simp; with_reducible rfl)); (case' dh27 => (try simp only [Act.put, List.setIfInBounds_toArray, List.set_cons_zero, List.set_cons_succ])))
              (refine' head_loadCell rfl ?_ rfl rfl (HC.out) Try.underlying9 rfl ?_; (first | exact fun _ _ _ => trivial | (intro t ht w; cases ht; simp [upE])); try simp only [Act.put, List.setIfInBounds_toArray, List.set_cons_zero, List.set_cons_succ])
              (refine' head_val ?dw28 ?de28 ?dr28 ?dh28; (case' dw28 => rfl); (case' de28 => (first | exact fun _ _ _ => trivial | (intro t ht w; cases ht; simp [upE]))); (case' dr28 => (intro w' hw' _; go_simp; with_reducible rfl)); (case' dh28 => (try simp only [Act.put, List.setIfInBounds_toArray, List.set_cons_zero, List.set_cons_succ]))); (refine' head_val ?dw29 ?de29 ?dr29 ?dh29; (case' dw29 => rfl); (case' de29 => (first | exact fun _ _ _ => trivial | (intro t ht w; cases ht; simp [upE]))); (case' dr29 => (intro w' hw' _; go_simp; with_reducible rfl)); (case' dh29 => (try simp only [Act.put, List.setIfInBounds_toArray, List.set_cons_zero, List.set_cons_succ]))); (refine' head_val ?dw30 ?de30 ?dr30 ?dh30; (case' dw30 => rfl); (case' de30 => (first | exact fun _ _ _ => trivial | (intro t ht w; cases ht; simp [upE]))); (case' dr30 => (intro w' hw' _; go_simp; with_reducible rfl)); (case' dh30 => (try simp only [Act.put, List.setIfInBounds_toArray, List.set_cons_zero, List.set_cons_succ])))
              (refine' head_loadCell rfl ?_ rfl rfl (HD.out) Try.underlying9 rfl ?_; (first | exact fun _ _ _ => trivial | (intro t ht w; cases ht; simp [upE])); try simp only [Act.put, List.setIfInBounds_toArray, List.set_cons_zero, List.set_cons_succ])
              (refine' head_val ?dw31 ?de31 ?dr31 ?dh31; (case' dw31 => rfl); (case' de31 => (first | exact fun _ _ _ => trivial | (intro t ht w; cases ht; simp [upE]))); (case' dr31 => (intro w' hw' _; go_simp; with_reducible rfl)); (case' dh31 => (try simp only [Act.put, List.setIfInBounds_toArray, List.set_cons_zero, List.set_cons_succ])))
              refine head_nil ?_
              intro w2 hb _
              replace HT3 := hid (HT3.out.grow hb)
              replace HB3 := hid (Grow.trans HB3.out hb)
              clear hb
              refine wpList_nil ?_
              generalize hzz : (x.toList == y.toList) = zb
              have HZZ := hid hzz
              clear hzz
              cases zb with
              | false =>
                have hxy : x ≠ y := fun e => by
                  have h := HZZ.out
                  rw [e] at h
                  simp at h
                have HT4 := hid (HT3.out.congr (U := valT xs ys (a + 1) b) (fun p q _ _ => by
                  rw [← HVV.out]
                  exact valT_step xs ys a b _ (by rw [HST.out, if_neg hxy]; omega) p q))
                clear hxy HZZ HT3 HVV HST HE1 HE3 HC HD
                go_wp2_with fail
                go_roundg (b + 1)
                case rel => exact ⟨b, by omega, rfl, by go_num, HT4, HB3⟩
                case measure => omega
              | true =>
                have hxy : x = y := by
                  by_cases e : x = y
                  · exact e
                  · have h := HZZ.out
                    rw [toList_beq_ne e] at h
                    cases h
                have HV4 := hid (show max (V a b) (V (a + 1) (b + 1) + 1) = Dif.kAt xs ys a b by rw [HE1.out, HE3.out, HST.out, if_pos hxy])
                clear hxy HZZ HST HE1 HE3 HC HD
                have wv : IntKind.i64.wrap ((V (a + 1) (b + 1) : Int) + 1) = (V (a + 1) (b + 1) : Int) + 1 := by simp [IntKind.wrap, IntKind.signed, IntKind.bits]; omega
                go_wp2_with fail
                refine wp_region_floatG (fun W => TabAt W o r N M V) [0,1,2,3,4,5,6,7,8,9,10,11,12,13,14,15,16,17,18,19,20,21,22,23] [] [24] rfl (by kernel_rfl) rfl (by kernel_rfl) (by kernel_rfl) ?_
                intro wf3 hb
                replace HB3 := hid (Grow.trans HB3.out hb)
                replace HT3 := hid (HT3.out.grow hb)
                clear hb
                refine ⟨HT3.out, ?_⟩
                (refine' pickT_val ?po32 ?pw32 ?pr32 ?pq32 ?ph32; (case' po32 => exact rfl); (case' pw32 => rfl); (case' pq32 => (exact fun _ _ _ h => h)); (case' pr32 => (intro w' hw'; go_simp; with_reducible rfl)); (case' ph32 => (try simp only [List.getElem_toArray, List.getElem_cons_zero, List.getElem_cons_succ, Act.put, List.setIfInBounds_toArray, List.set_cons_zero, List.set_cons_succ]))); (refine' pickT_val ?po33 ?pw33 ?pr33 ?pq33 ?ph33; (case' po33 => exact rfl); (case' pw33 => rfl); (case' pq33 => (exact fun _ _ _ h => h)); (case' pr33 => (intro w' hw'; go_simp; with_reducible rfl)); (case' ph33 => (try simp only [List.getElem_toArray, List.getElem_cons_zero, List.getElem_cons_succ, Act.put, List.setIfInBounds_toArray, List.set_cons_zero, List.set_cons_succ]))); (refine' pickT_val ?po34 ?pw34 ?pr34 ?pq34 ?ph34; (case' po34 => exact rfl); (case' pw34 => rfl); (case' pq34 => (exact fun _ _ _ h => h)); (case' pr34 => (intro w' hw'; go_simp; with_reducible rfl)); (case' ph34 => (try simp only [List.getElem_toArray, List.getElem_cons_zero, List.getElem_cons_succ, Act.put, List.setIfInBounds_toArray, List.set_cons_zero, List.set_cons_succ])))
                (refine' pickT_val (v := (.slice (some ⟨r a, 0, none⟩) (m + 1) (m + 1))) ?po35 ?pw35 ?pr35 ?pq35 ?ph35; (case' po35 => exact rfl); (case' pw35 => rfl); (case' pq35 => (exact fun _ _ _ h => h)); (case' pr35 => (intro w' hw'; exact run_opLoad1 rfl rfl (by rw [← HMM.out]; exact hw'.cellRow (show a < N by have := HNN.out; omega)) Try.underlying73 rfl)); (case' ph35 => (try simp only [List.getElem_toArray, List.getElem_cons_zero, List.getElem_cons_succ, Act.put, List.setIfInBounds_toArray, List.set_cons_zero, List.set_cons_succ])))
                (refine' pickT_val ?po36 ?pw36 ?pr36 ?pq36 ?ph36; (case' po36 => exact rfl); (case' pw36 => rfl); (case' pq36 => (exact fun _ _ _ h => h)); (case' pr36 => (intro w' hw'; go_simp; with_reducible rfl)); (case' ph36 => (try simp only [List.getElem_toArray, List.getElem_cons_zero, List.getElem_cons_succ, Act.put, List.setIfInBounds_toArray, List.set_cons_zero, List.set_cons_succ]))); (refine' pickT_val ?po37 ?pw37 ?pr37 ?pq37 ?ph37; (case' po37 => exact rfl); (case' pw37 => rfl); (case' pq37 => (exact fun _ _ _ h => h)); (case' pr37 => (intro w' hw'; go_simp; with_reducible rfl)); (case' ph37 => (try simp only [List.getElem_toArray, List.getElem_cons_zero, List.getElem_cons_succ, Act.put, List.setIfInBounds_toArray, List.set_cons_zero, List.set_cons_succ]))); (refine' pickT_val ?po38 ?pw38 ?pr38 ?pq38 ?ph38; (case' po38 => exact rfl); (case' pw38 => rfl); (case' pq38 => (exact fun _ _ _ h => h)); (case' pr38 => (intro w' hw'; go_simp; with_reducible rfl)); (case' ph38 => (try simp only [List.getElem_toArray, List.getElem_cons_zero, List.getElem_cons_succ, Act.put, List.setIfInBounds_toArray, List.set_cons_zero, List.set_cons_succ]))); (refine' pickT_val ?po39 ?pw39 ?pr39 ?pq39 ?ph39; (case' po39 => exact rfl); (case' pw39 => rfl); (case' pq39 => (exact fun _ _ _ h => h)); (case' pr39 => (intro w' hw'; go_simp; with_reducible rfl)); (case' ph39 => (try simp only [List.getElem_toArray, List.getElem_cons_zero, List.getElem_cons_succ, Act.put, List.setIfInBounds_toArray, List.set_cons_zero, List.set_cons_succ])))
                (refine' pickT_val (v := (.slice (some ⟨r a, 0, none⟩) (m + 1) (m + 1))) ?po40 ?pw40 ?pr40 ?pq40 ?ph40; (case' po40 => exact rfl); (case' pw40 => rfl); (case' pq40 => (exact fun _ _ _ h => h)); (case' pr40 => (intro w' hw'; exact run_opLoad1 rfl rfl (by rw [← HMM.out]; exact hw'.cellRow (show a < N by have := HNN.out; omega)) Try.underlying73 rfl)); (case' ph40 => (try simp only [List.getElem_toArray, List.getElem_cons_zero, List.getElem_cons_succ, Act.put, List.setIfInBounds_toArray, List.set_cons_zero, List.set_cons_succ])))
                (refine' pickT_val ?po41 ?pw41 ?pr41 ?pq41 ?ph41; (case' po41 => exact rfl); (case' pw41 => rfl); (case' pq41 => (exact fun _ _ _ h => h)); (case' pr41 => (intro w' hw'; go_simp; with_reducible rfl)); (case' ph41 => (try simp only [List.getElem_toArray, List.getElem_cons_zero, List.getElem_cons_succ, Act.put, List.setIfInBounds_toArray, List.set_cons_zero, List.set_cons_succ]))); (refine' pickT_val ?po42 ?pw42 ?pr42 ?pq42 ?ph42; (case' po42 => exact rfl); (case' pw42 => rfl); (case' pq42 => (exact fun _ _ _ h => h)); (case' pr42 => (intro w' hw'; go_simp; with_reducible rfl)); (case' ph42 => (try simp only [List.getElem_toArray, List.getElem_cons_zero, List.getElem_cons_succ, Act.put, List.setIfInBounds_toArray, List.set_cons_zero, List.set_cons_succ])))
                (refine' pickT_val (v := (.int .i64 (V a b : Int))) ?po43 ?pw43 ?pr43 ?pq43 ?ph43; (case' po43 => exact rfl); (case' pw43 => rfl); (case' pq43 => (exact fun _ _ _ h => h)); (case' pr43 => (intro w' hw'; exact run_opLoad1 rfl rfl (hw'.cellVal (show a < N by have := HNN.out; omega) (show b < M by have := HMM.out; omega)) Try.underlying3 rfl)); (case' ph43 => (try simp only [List.getElem_toArray, List.getElem_cons_zero, List.getElem_cons_succ, Act.put, List.setIfInBounds_toArray, List.set_cons_zero, List.set_cons_succ])))
                (refine' pickT_val ?po44 ?pw44 ?pr44 ?pq44 ?ph44; (case' po44 => exact rfl); (case' pw44 => rfl); (case' pq44 => (exact fun _ _ _ h => h)); (case' pr44 => (intro w' hw'; go_simp; with_reducible rfl)); (case' ph44 => (try simp only [List.getElem_toArray, List.getElem_cons_zero, List.getElem_cons_succ, Act.put, List.setIfInBounds_toArray, List.set_cons_zero, List.set_cons_succ]))); (refine' pickT_val ?po45 ?pw45 ?pr45 ?pq45 ?ph45; (case' po45 => exact rfl); (case' pw45 => rfl); (case' pq45 => (exact fun _ _ _ h => h)); (case' pr45 => (intro w' hw'; go_simp; with_reducible rfl)); (case' ph45 => (try simp only [List.getElem_toArray, List.getElem_cons_zero, List.getElem_cons_succ, Act.put, List.setIfInBounds_toArray, List.set_cons_zero, List.set_cons_succ]))); (refine' pickT_val ?po46 ?pw46 ?pr46 ?pq46 ?ph46; (case' po46 => exact rfl); (case' pw46 => rfl); (case' pq46 => (exact fun _ _ _ h => h)); (case' pr46 => (intro w' hw'; go_simp; with_reducible rfl)); (case' ph46 => (try simp only [List.getElem_toArray, List.getElem_cons_zero, List.getElem_cons_succ, Act.put, List.setIfInBounds_toArray, List.set_cons_zero, List.set_cons_succ]))); (refine' pickT_val ?po47 ?pw47 ?pr47 ?pq47 ?ph47; (case' po47 => exact rfl); (case' pw47 => rfl); (case' pq47 => (exact fun _ _ _ h => h)); (case' pr47 => (intro w' hw'; go_simp; with_reducible rfl)); (case' ph47 => (try simp only [List.getElem_toArray, List.getElem_cons_zero, List.getElem_cons_succ, Act.put, List.setIfInBounds_toArray, List.set_cons_zero, List.set_cons_succ])))
                (refine' pickT_val (v := (.slice (some ⟨r (a + 1), 0, none⟩) (m + 1) (m + 1))) ?po48 ?pw48 ?pr48 ?pq48 ?ph48; (case' po48 => exact rfl); (case' pw48 => rfl); (case' pq48 => (exact fun _ _ _ h => h)); (case' pr48 => (intro w' hw'; exact run_opLoad1 rfl rfl (by rw [← HMM.out]; exact hw'.cellRow (show a + 1 < N by have := HNN.out; omega)) Try.underlying73 rfl)); (case' ph48 => (try simp only [List.getElem_toArray, List.getElem_cons_zero, List.getElem_cons_succ, Act.put, List.setIfInBounds_toArray, List.set_cons_zero, List.set_cons_succ])))
                (refine' pickT_val ?po49 ?pw49 ?pr49 ?pq49 ?ph49; (case' po49 => exact rfl); (case' pw49 => rfl); (case' pq49 => (exact fun _ _ _ h => h)); (case' pr49 => (intro w' hw'; go_simp; with_reducible rfl)); (case' ph49 => (try simp only [List.getElem_toArray, List.getElem_cons_zero, List.getElem_cons_succ, Act.put, List.setIfInBounds_toArray, List.set_cons_zero, List.set_cons_succ]))); (refine' pickT_val ?po50 ?pw50 ?pr50 ?pq50 ?ph50; (case' po50 => exact rfl); (case' pw50 => rfl); (case' pq50 => (exact fun _ _ _ h => h)); (case' pr50 => (intro w' hw'; go_simp; with_reducible rfl)); (case' ph50 => (try simp only [List.getElem_toArray, List.getElem_cons_zero, List.getElem_cons_succ, Act.put, List.setIfInBounds_toArray, List.set_cons_zero, List.set_cons_succ]))); (refine' pickT_val ?po51 ?pw51 ?pr51 ?pq51 ?ph51; (case' po51 => exact rfl); (case' pw51 => rfl); (case' pq51 => (exact fun _ _ _ h => h)); (case' pr51 => (intro w' hw'; go_simp; with_reducible rfl)); (case' ph51 => (try simp only [List.getElem_toArray, List.getElem_cons_zero, List.getElem_cons_succ, Act.put, List.setIfInBounds_toArray, List.set_cons_zero, List.set_cons_succ])))
                (refine' pickT_val (v := (.int .i64 (V (a + 1) (b + 1) : Int))) ?po52 ?pw52 ?pr52 ?pq52 ?ph52; (case' po52 => exact rfl); (case' pw52 => rfl); (case' pq52 => (exact fun _ _ _ h => h)); (case' pr52 => (intro w' hw'; exact run_opLoad1 rfl rfl (hw'.cellVal (show a + 1 < N by have := HNN.out; omega) (show b + 1 < M by have := HMM.out; omega)) Try.underlying3 rfl)); (case' ph52 => (try simp only [List.getElem_toArray, List.getElem_cons_zero, List.getElem_cons_succ, Act.put, List.setIfInBounds_toArray, List.set_cons_zero, List.set_cons_succ])))
                (refine' pickT_val ?po53 ?pw53 ?pr53 ?pq53 ?ph53; (case' po53 => exact rfl); (case' pw53 => rfl); (case' pq53 => (exact fun _ _ _ h => h)); (case' pr53 => (intro w' hw'; go_simp; with_reducible rfl)); (case' ph53 => (try simp only [List.getElem_toArray, List.getElem_cons_zero, List.getElem_cons_succ, Act.put, List.setIfInBounds_toArray, List.set_cons_zero, List.set_cons_succ]))); (refine' pickT_val ?po54 ?pw54 ?pr54 ?pq54 ?ph54; (case' po54 => exact rfl); (case' pw54 => rfl); (case' pq54 => (exact fun _ _ _ h => h)); (case' pr54 => (intro w' hw'; go_simp; with_reducible rfl)); (case' ph54 => (try simp only [List.getElem_toArray, List.getElem_cons_zero, List.getElem_cons_succ, Act.put, List.setIfInBounds_toArray, List.set_cons_zero, List.set_cons_succ]))); (refine' pickT_val ?po55 ?pw55 ?pr55 ?pq55 ?ph55; (case' po55 => exact rfl); (case' pw55 => rfl); (case' pq55 => (exact fun _ _ _ h => h)); (case' pr55 => (intro w' hw'; go_simp; with_reducible rfl)); (case' ph55 => (try simp only [List.getElem_toArray, List.getElem_cons_zero, List.getElem_cons_succ, Act.put, List.setIfInBounds_toArray, List.set_cons_zero, List.set_cons_succ])))
                refine pickT_nil ?_
                refine seqT_nil ?_
                show wpList _ _ _ (_ :: []) _ _
                have HFT := hid (show b < (rowV (V a) M).toArray.size by have := HMM.out; simp [rowV]; omega)
                refine op_store1 (g := r a) (i := b) (v := .int .i64 ((max (V a b) (V (a + 1) (b + 1) + 1) : Nat) : Int)) rfl rfl rfl rfl (by first | rfl | (go_simp; omega)) (HT3.out.row a (by have := HNN.out; omega)) rfl rfl infoIntS HFT.out ?_
                intro w5 hW hgr hbel
                have HT5 := hid (HT3.out.set (show a < N by have := HNN.out; omega) hW hgr)
                have HB5 := hid (hbel _ _ HB3.out (HLO.out a (by have := HNN.out; omega)))
                have HT6 := hid (HT5.out.congr (U := valT xs ys (a + 1) b) (fun p q _ _ => by
                  rw [← valT_step xs ys a b _ HV4.out p q]
                  by_cases e : p = a ∧ q = b
                  · rw [if_pos e, if_pos e]
                  · rw [if_neg e, if_neg e, ← HVV.out]
                    exact if_neg e))
                clear hW hgr hbel HT3 HB3 HFT HT5 HV4 HVV wv
                go_wp2_with fail
                go_roundg (b + 1)
                case rel => exact ⟨b, by omega, rfl, by go_num, HT6, HB5⟩
                case measure => omega
end Go.Proofs.Ytkbapegohodcgaa
