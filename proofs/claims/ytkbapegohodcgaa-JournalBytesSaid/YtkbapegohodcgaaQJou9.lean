/- quitclaimref25.All and Same: contracts. -/
import Derived.Test.YtkbapegohodcgaaQJou8
set_option linter.unusedSimpArgs false
set_option linter.unusedVariables false
namespace Go.Proofs.Ytkbapegohodcgaa
open Go.RowKit
open Go.Qk hiding rotr b4
open Pac
set_option maxHeartbeats 4000000
set_option maxRecDepth 100000
section
variable {P : Program} {ops : Array Oper} {W : World} {Qe : (Tmp → World → Prop) → Act → Prop} {o : Oper} {r : List (Oper × (Value → World → Prop))} {E : Tmp → World → Prop} {a : Act}
theorem head_loadG {x : Operand} {ad : Addr} {cs : List Value} {T : TypeId} {d : TypeDesc} (hwant : Region.wanted o (yielded ops a.tmps) = true) (hE : ∀ t, o.dst = some t → ∀ w, E t w)
    (ho : o.op = .load T x) (hx : a.eval x = .pointer (some ad)) (hc : ∀ j v, cs[j]? = some v → W.cell? (ad.add j) = some v) (hu : P.underlying T = some d) (hd : (match d with | .struct _ | .array _ _ => true | _ => false) = true) (hi : (P.info? T).map (·.size) = some cs.length)
    (h : Head P ops W Qe r E (a.put o.dst (.agg cs.toArray))) : Head P ops W Qe ((o, fun x _ => x = .agg cs.toArray) :: r) E a := by
  refine head_val hwant hE (fun w hw _ => ?_) h
  unfold execOp
  simp only [ho, hx, Sem.run_bind, Sem.run_pure, Result.andThen_ok, run_loadAt_agg (P := P) w ad T cs d (fun j v hj => grow_cell (hc j v hj) hw) hu hd hi]
end
theorem infoF25 (x : Int × List UInt8) : (Try.prog.info? 99).map (·.size) = some (fmCells x).length := by kernel_rfl
theorem refAll25 (A : Option Addr) (n d : Nat) (fs : List (Int × List UInt8)) (w : World) (hx : FmRow w A fs) (hn : fs.length = n) (hok : ∀ x ∈ fs, fmOk x) (hsz : ∀ k, k ≤ n → fmSize (fs.take k) ≤ 500000000) :
    Calls Try.prog 72 #[.slice A n d] w fun e w' => e = .returned (.string (bs (allF beginL (fs.map fmG)))) ∧ Below w.heap.size w w' := by
  have HX := hid hx
  have HN := hid hn
  have HOK := hid hok
  have HSZ := hid hsz
  have n9 : n ≤ 9223372036854775807 := by have := hx.1; omega
  clear hx hn hok hsz
  go_enter Try.func72, Try.ntmps72
  have HB := hid (grow_refl w)
  go_wp2_with fail
  refine (begin25 _).mono ?_
  rintro e w1 ⟨rfl, hb⟩
  replace HB := hid (Grow.trans HB.out hb)
  clear hb
  go_wp2_with (first |  (refine op_allocstore (l := beginL) rfl rfl rfl rfl rfl rfl (fun _ => rfl) ⟨fun _ => rfl, beginL_length⟩ ?_))
  intro g5 w2 hgl hgu hb hr
  have XL := hid (Nat.le_trans HB.out.size hgl)
  replace HB := hid (Grow.trans HB.out hb)
  have X := hid hr; have XU := hid hgu
  clear hr hgl hgu hb
  try simp only [Act.put, List.setIfInBounds_toArray, List.set_cons_zero, List.set_cons_succ]
  have HGL5 := XL
  clear XU XL
  go_wp2_with fail
  go_loopg [3, 5] (n + 1) (fun z s i wr => ∃ k : Nat, k ≤ n ∧ z = n + 1 - k ∧ i = .int .i64 (k : Int) ∧ s = .string (bs (allF beginL ((fs.take k).map fmG))) ∧ Hid (wr.heap[g5]? = some (.cells (u8s (chainF beginL ((fs.take k).map fmG))).toArray 45 (0, 0))) ∧ Hid (w.heap.size ≤ g5) ∧ Hid (Grow w wr))
  case atStart => exact ⟨0, by omega, by omega, rfl, rfl, X, HGL5, HB⟩
  case round =>
    clear X HB HGL5
    obtain ⟨k, hk, hz, rfl, rfl, HG, HGL, HB⟩ := hrel
    have k0 : (0 : Int) ≤ (k : Int) := by omega
    have HC := hid (chainF_length ((fs.take k).map fmG) beginL beginL_length)
    by_cases hlt : k < n
    · have k1 : (k : Int) < (n : Int) := by omega
      have hkl : k < fs.length := by rw [HN.out]; exact hlt
      obtain ⟨ad, rfl, hc⟩ := (HX.out.grow HB.out).at_ k hkl
      have hok := HOK.out (fs.getD k fm0) (by simp [hkl])
      have htk := fm_take fs k hkl
      have hsz1 := HSZ.out (k + 1) (by omega)
      rw [htk, fmSize_snoc] at hsz1
      have hal := allF_snoc ((fs.take k).map fmG) beginL (fmG (fs.getD k fm0)).1 (fmG (fs.getD k fm0)).2
      have HTK := hid (show (fs.take (k + 1)).map fmG = (fs.take k).map fmG ++ [fmG (fs.getD k fm0)] by rw [htk]; simp)
      obtain ⟨q1, q2⟩ := fmG_kind hok
      have hps := hok.2.2
      generalize fs.getD k fm0 = y at *
      obtain ⟨ki, p⟩ := y
      obtain ⟨kb, hkb⟩ : ∃ kb, kb = (fmG (ki, p)).1 := ⟨_, rfl⟩
      have hgp : fmG (ki, p) = (kb, p) := by rw [hkb]; rfl
      rw [← hkb] at q1 q2
      rw [hgp] at hal HTK
      dsimp only at q1 hal hsz1 hps
      subst q1
      have HAL := hid hal
      have HCC := hid hc
      have HPS := hid hps
      have hbl : (allF beginL ((fs.take k).map fmG)).length ≤ fmSize (fs.take k) := allF_len _ _ (fun x hx => HOK.out x (List.mem_of_mem_take hx))
      have hll : (allF beginL ((fs.take k).map fmG)).length + (frameB (chainF beginL ((fs.take k).map fmG)) kb p).length ≤ 1000000000 := by have := frameB_len (chainF beginL ((fs.take k).map fmG)) p kb hps; omega
      clear hc hok htk hsz1 hal hkb hgp hbl q2 hps
      generalize chainF beginL ((fs.take k).map fmG) = c at *
      generalize allF beginL ((fs.take k).map fmG) = T at *
      have hz3 : ¬ 9223372036854775807 < (bs T).size + (bs (frameB c kb p)).size := by rw [bs_size, bs_size]; omega
      have HWF := hid (show bs T ++ bs (frameB c kb p) = bs (T ++ frameB c kb p) from bs_append _ _)
      clear hll
      go_wp2_with fail
      (refine' wp_region_head 8 1 [_, _, _, _, _, _, _, _] rfl (by kernel_rfl) (by kernel_rfl) ?hreg1; case' hreg1 => simp only [List.take_succ_cons, List.take_zero, List.zip_cons_cons, List.zip_nil_right, List.drop_succ_cons, List.drop_zero, List.drop_nil])
      (refine' head_val ?dw2 ?de2 ?dr2 ?dh2; (case' dw2 => rfl); (case' de2 => (first | exact fun _ _ _ => trivial | (intro t ht w; cases ht; simp [upE]))); (case' dr2 => (intro w' hw' _; go_simp; with_reducible rfl)); (case' dh2 => (try simp only [Act.put, List.setIfInBounds_toArray, List.set_cons_zero, List.set_cons_succ])))
      (refine' head_loadId (x := _) rfl ?_ rfl rfl HG.out (HC.out) ?_; (first | exact fun _ _ _ => trivial | (intro t ht w; cases ht; simp [upE])); try simp only [Act.put, List.setIfInBounds_toArray, List.set_cons_zero, List.set_cons_succ])
      (refine' head_val ?dw3 ?de3 ?dr3 ?dh3; (case' dw3 => rfl); (case' de3 => (first | exact fun _ _ _ => trivial | (intro t ht w; cases ht; simp [upE]))); (case' dr3 => (intro w' hw' _; go_simp; with_reducible rfl)); (case' dh3 => (try simp only [Act.put, List.setIfInBounds_toArray, List.set_cons_zero, List.set_cons_succ]))); (refine' head_val ?dw4 ?de4 ?dr4 ?dh4; (case' dw4 => rfl); (case' de4 => (first | exact fun _ _ _ => trivial | (intro t ht w; cases ht; simp [upE]))); (case' dr4 => (intro w' hw' _; go_simp; with_reducible rfl)); (case' dh4 => (try simp only [Act.put, List.setIfInBounds_toArray, List.set_cons_zero, List.set_cons_succ]))); (refine' head_val ?dw5 ?de5 ?dr5 ?dh5; (case' dw5 => rfl); (case' de5 => (first | exact fun _ _ _ => trivial | (intro t ht w; cases ht; simp [upE]))); (case' dr5 => (intro w' hw' _; go_simp; with_reducible rfl)); (case' dh5 => (try simp only [Act.put, List.setIfInBounds_toArray, List.set_cons_zero, List.set_cons_succ])))
      (refine' head_loadG (cs := fmCells ((kb.toNat : Int), p)) rfl ?_ rfl rfl HCC.out Try.underlying99 rfl (infoF25 _) ?_; (first | exact fun _ _ _ => trivial | (intro t ht w; cases ht; simp [upE])); try simp only [Act.put, List.setIfInBounds_toArray, List.set_cons_zero, List.set_cons_succ])
      (refine' head_call ?cw6 ?ce6 ?cr6 ?cc6 ?ch6; (case' cw6 => rfl); (case' ce6 => (first | exact fun _ _ _ => trivial | (intro t ht w; cases ht; simp [upE]))); (case' cr6 => (intro w'; go_simp; first | exact ⟨rfl, rfl⟩ | with_reducible rfl)); (case' cc6 => (intro w' hw' _; exact bytes25 c p kb HC.out HPS.out w')); (case' ch6 => (try simp only [Act.put, List.setIfInBounds_toArray, List.set_cons_zero, List.set_cons_succ])))
      (refine' head_val (v := .string (bs (T ++ frameB c kb p))) ?dw7 ?de7 ?dr7 ?dh7; (case' dw7 => rfl); (case' de7 => (first | exact fun _ _ _ => trivial | (intro t ht w; cases ht; simp [upE]))); (case' dr7 => (intro w' hw' hE; (go_simp; rw [HWF.out]))); (case' dh7 => (try simp only [Act.put, List.setIfInBounds_toArray, List.set_cons_zero, List.set_cons_succ])))
      refine head_nil ?_
      intro w8 hb _
      have HCC2 := hid (fun j v (hj : (fmCells ((kb.toNat : Int), p))[j]? = some v) => grow_cell (HCC.out j v hj) hb)
      replace HG := hid (grow_block HG.out hb)
      replace HB := hid (Grow.trans HB.out hb)
      clear hb
      clear HCC
      go_wp2_with fail
      (refine' wp_region_head 6 1 [_, _, _, _, _, _] rfl (by kernel_rfl) (by kernel_rfl) ?hreg8; case' hreg8 => simp only [List.take_succ_cons, List.take_zero, List.zip_cons_cons, List.zip_nil_right, List.drop_succ_cons, List.drop_zero, List.drop_nil])
      (refine' head_loadId (x := _) rfl ?_ rfl rfl HG.out (HC.out) ?_; (first | exact fun _ _ _ => trivial | (intro t ht w; cases ht; simp [upE])); try simp only [Act.put, List.setIfInBounds_toArray, List.set_cons_zero, List.set_cons_succ])
      (refine' head_val ?dw9 ?de9 ?dr9 ?dh9; (case' dw9 => rfl); (case' de9 => (first | exact fun _ _ _ => trivial | (intro t ht w; cases ht; simp [upE]))); (case' dr9 => (intro w' hw' _; go_simp; with_reducible rfl)); (case' dh9 => (try simp only [Act.put, List.setIfInBounds_toArray, List.set_cons_zero, List.set_cons_succ]))); (refine' head_val ?dw10 ?de10 ?dr10 ?dh10; (case' dw10 => rfl); (case' de10 => (first | exact fun _ _ _ => trivial | (intro t ht w; cases ht; simp [upE]))); (case' dr10 => (intro w' hw' _; go_simp; with_reducible rfl)); (case' dh10 => (try simp only [Act.put, List.setIfInBounds_toArray, List.set_cons_zero, List.set_cons_succ]))); (refine' head_val ?dw11 ?de11 ?dr11 ?dh11; (case' dw11 => rfl); (case' de11 => (first | exact fun _ _ _ => trivial | (intro t ht w; cases ht; simp [upE]))); (case' dr11 => (intro w' hw' _; go_simp; with_reducible rfl)); (case' dh11 => (try simp only [Act.put, List.setIfInBounds_toArray, List.set_cons_zero, List.set_cons_succ])))
      (refine' head_loadG (cs := fmCells ((kb.toNat : Int), p)) rfl ?_ rfl rfl HCC2.out Try.underlying99 rfl (infoF25 _) ?_; (first | exact fun _ _ _ => trivial | (intro t ht w; cases ht; simp [upE])); try simp only [Act.put, List.setIfInBounds_toArray, List.set_cons_zero, List.set_cons_succ])
      (refine' head_call ?cw12 ?ce12 ?cr12 ?cc12 ?ch12; (case' cw12 => rfl); (case' ce12 => (first | exact fun _ _ _ => trivial | (intro t ht w; cases ht; simp [upE]))); (case' cr12 => (intro w'; go_simp; first | exact ⟨rfl, rfl⟩ | with_reducible rfl)); (case' cc12 => (intro w' hw' _; exact next25 c p kb HC.out HPS.out w')); (case' ch12 => (try simp only [Act.put, List.setIfInBounds_toArray, List.set_cons_zero, List.set_cons_succ])))
      refine head_nil ?_
      intro w3 hb _
      replace HG := hid (grow_block HG.out hb)
      replace HB := hid (Grow.trans HB.out hb)
      clear hb
      go_wp2_with (first | (refine op_storeId (l := nextL c kb p) rfl rfl rfl rfl rfl HG.out HC.out (nextL_length c kb p) ?_) | fail)
      intro w7 hW hgr hbel
      replace HB := hid (show Grow w w7 from hbel _ _ HB.out HGL.out)
      replace HG := hid hW
      clear hW hgr hbel
      go_wp2_with fail
      go_roundg (n + 1 - (k + 1))
      case rel => exact ⟨k + 1, by omega, rfl, by go_num, by rw [HTK.out, HAL.out.1], hid (by rw [HTK.out, HAL.out.2]; exact HG.out), HGL, HB⟩
      case measure => omega
    · obtain rfl : k = n := by omega
      have HTT := hid (List.take_of_length_le (show fs.length ≤ k by rw [HN.out]; omega))
      rw [HTT.out]
      go_wp2_with fail
      go_ret
      exact ⟨rfl, HB.out⟩
theorem fm_take_eq {fs gs : List (Int × List UInt8)} {k : Nat} (h : fs.take k = gs.take k) (h1 : k < fs.length) (h2 : k < gs.length) (e : fs.getD k fm0 = gs.getD k fm0) : fs.take (k + 1) = gs.take (k + 1) := by
  rw [fm_take fs k h1, fm_take gs k h2, h, e]
theorem fm_if {α : Sort _} (x y : Int × List UInt8) (A B : α) : (if x.fst = y.fst then if (bs x.snd).toList = (bs y.snd).toList then A else B else B) = if x = y then A else B := by
  obtain ⟨k, p⟩ := x
  obtain ⟨l, q⟩ := y
  by_cases hk : k = l
  · by_cases hp : p = q
    · subst hk; subst hp; simp
    · have h1 : ¬ (bs p).toList = (bs q).toList := fun h => hp (by
        have h2 : bs p = bs q := by
          by_cases e : bs p = bs q
          · exact e
          · have h3 := toList_beq_ne e
            rw [h] at h3
            simp at h3
        exact bs_inj h2)
      simp [hk, hp, h1]
  · simp [hk]
theorem refSame25 (A B : Option Addr) (n m d e : Nat) (fs gs : List (Int × List UInt8)) (w : World) (hx : FmRow w A fs) (hy : FmRow w B gs) (hn : fs.length = n) (hm : gs.length = m) :
    Calls Try.prog 73 #[.slice A n d, .slice B m e] w fun r w' => r = .returned (.bool (decide (fs = gs))) ∧ Below w.heap.size w w' := by
  have HX := hid hx
  have HY := hid hy
  have HN := hid hn
  have HM := hid hm
  have n9 : n ≤ 9223372036854775807 := by have := hx.1; omega
  have m9 : m ≤ 9223372036854775807 := by have := hy.1; omega
  clear hx hy hn hm
  by_cases hl : n = m
  · subst hl
    have tl : ((n : Int) != (n : Int)) = false := by simp
    go_enter Try.func73, Try.ntmps73
    have HB := hid (grow_refl w)
    go_wp2_with fail
    go_loopg [5] (n + 1) (fun z i wr => ∃ k : Nat, k ≤ n ∧ z = n + 1 - k ∧ i = .int .i64 (k : Int) ∧ Hid (fs.take k = gs.take k) ∧ Hid (Grow w wr))
    case atStart => exact ⟨0, by omega, by omega, rfl, hid (by simp), HB⟩
    case round =>
      clear HB tl
      obtain ⟨k, hk, hz, rfl, HS, HB⟩ := hrel
      by_cases hlt : k < n
      · have k0 : (0 : Int) ≤ (k : Int) := by omega
        have k1 : (k : Int) < (n : Int) := by omega
        have HK1 := hid (show k < fs.length by rw [HN.out]; exact hlt)
        have HK2 := hid (show k < gs.length by rw [HM.out]; exact hlt)
        obtain ⟨ad, rfl, hc⟩ := (HX.out.grow HB.out).at_ k HK1.out
        obtain ⟨bd, rfl, hd⟩ := (HY.out.grow HB.out).at_ k HK2.out
        have HC := hid hc
        have HD := hid hd
        have HST := hid (fun h => fm_take_eq HS.out HK1.out HK2.out h)
        have HNE := hid (show fs.getD k fm0 ≠ gs.getD k fm0 → fs ≠ gs from fun h e => h (by rw [e]))
        clear hc hd HS
        generalize fs.getD k fm0 = x at *
        generalize gs.getD k fm0 = y at *
        go_wp2_with fail
        (refine' wp_region_head 9 0 [_, _, _, _, _, _, _, _, _] rfl (by kernel_rfl) (by kernel_rfl) ?hreg13; case' hreg13 => simp only [List.take_succ_cons, List.take_zero, List.zip_cons_cons, List.zip_nil_right, List.drop_succ_cons, List.drop_zero, List.drop_nil])
        (refine' head_val ?dw14 ?de14 ?dr14 ?dh14; (case' dw14 => rfl); (case' de14 => (first | exact fun _ _ _ => trivial | (intro t ht w; cases ht; simp [upE]))); (case' dr14 => (intro w' hw' _; go_simp; with_reducible rfl)); (case' dh14 => (try simp only [Act.put, List.setIfInBounds_toArray, List.set_cons_zero, List.set_cons_succ]))); (refine' head_val ?dw15 ?de15 ?dr15 ?dh15; (case' dw15 => rfl); (case' de15 => (first | exact fun _ _ _ => trivial | (intro t ht w; cases ht; simp [upE]))); (case' dr15 => (intro w' hw' _; go_simp; with_reducible rfl)); (case' dh15 => (try simp only [Act.put, List.setIfInBounds_toArray, List.set_cons_zero, List.set_cons_succ]))); (refine' head_val ?dw16 ?de16 ?dr16 ?dh16; (case' dw16 => rfl); (case' de16 => (first | exact fun _ _ _ => trivial | (intro t ht w; cases ht; simp [upE]))); (case' dr16 => (intro w' hw' _; go_simp; with_reducible rfl)); (case' dh16 => (try simp only [Act.put, List.setIfInBounds_toArray, List.set_cons_zero, List.set_cons_succ])))
        (refine' head_loadG (cs := fmCells x) rfl ?_ rfl rfl HC.out Try.underlying99 rfl (infoF25 _) ?_; (first | exact fun _ _ _ => trivial | (intro t ht w; cases ht; simp [upE])); try simp only [Act.put, List.setIfInBounds_toArray, List.set_cons_zero, List.set_cons_succ])
        (refine' head_val ?dw17 ?de17 ?dr17 ?dh17; (case' dw17 => rfl); (case' de17 => (first | exact fun _ _ _ => trivial | (intro t ht w; cases ht; simp [upE]))); (case' dr17 => (intro w' hw' _; go_simp; with_reducible rfl)); (case' dh17 => (try simp only [Act.put, List.setIfInBounds_toArray, List.set_cons_zero, List.set_cons_succ]))); (refine' head_val ?dw18 ?de18 ?dr18 ?dh18; (case' dw18 => rfl); (case' de18 => (first | exact fun _ _ _ => trivial | (intro t ht w; cases ht; simp [upE]))); (case' dr18 => (intro w' hw' _; go_simp; with_reducible rfl)); (case' dh18 => (try simp only [Act.put, List.setIfInBounds_toArray, List.set_cons_zero, List.set_cons_succ]))); (refine' head_val ?dw19 ?de19 ?dr19 ?dh19; (case' dw19 => rfl); (case' de19 => (first | exact fun _ _ _ => trivial | (intro t ht w; cases ht; simp [upE]))); (case' dr19 => (intro w' hw' _; go_simp; with_reducible rfl)); (case' dh19 => (try simp only [Act.put, List.setIfInBounds_toArray, List.set_cons_zero, List.set_cons_succ])))
        (refine' head_loadG (cs := fmCells y) rfl ?_ rfl rfl HD.out Try.underlying99 rfl (infoF25 _) ?_; (first | exact fun _ _ _ => trivial | (intro t ht w; cases ht; simp [upE])); try simp only [Act.put, List.setIfInBounds_toArray, List.set_cons_zero, List.set_cons_succ])
        (refine' head_val (v := .bool (decide (x ≠ y))) ?dw20 ?de20 ?dr20 ?dh20; (case' dw20 => rfl); (case' de20 => (first | exact fun _ _ _ => trivial | (intro t ht w; cases ht; simp [upE]))); (case' dr20 => (intro w' hw' hE; (unfold fmCells; go_simp; rw [fm_if]; trace_state; by_cases e : x = y <;> simp [e]))); (case' dh20 => (try simp only [Act.put, List.setIfInBounds_toArray, List.set_cons_zero, List.set_cons_succ])))
        refine head_nil ?_
        intro w1 hb _
        replace HB := hid (Grow.trans HB.out hb)
        clear hb
        refine wpList_nil ?_
        by_cases hxy : x = y
        · have HS2 := hid (HST.out hxy)
          have hdd : decide (x ≠ y) = false := by simp [hxy]
          rw [hdd]
          clear hxy hdd HNE HST
          go_wp2_with fail
          go_roundg (n + 1 - (k + 1))
          case rel => exact ⟨k + 1, by omega, rfl, by go_num, HS2, HB⟩
          case measure => omega
        · have HF := hid (show decide (fs = gs) = false by simp [HNE.out hxy])
          have hdd : decide (x ≠ y) = true := by simp [hxy]
          rw [hdd]
          clear hxy hdd HNE HST
          go_wp2_with fail
          go_ret
          exact ⟨by rw [HF.out]; rfl, HB.out⟩
      · obtain rfl : k = n := by omega
        have HF := hid (show decide (fs = gs) = true by
          have h := HS.out
          rw [List.take_of_length_le (by rw [HN.out]; omega), List.take_of_length_le (by rw [HM.out]; omega)] at h
          simp [h])
        go_wp2_with fail
        go_ret
        exact ⟨by rw [HF.out]; rfl, HB.out⟩
  · have tl : ((n : Int) != (m : Int)) = true := by simp; omega
    have HF := hid (show decide (fs = gs) = false by
      have : fs ≠ gs := fun e => hl (by rw [← HN.out, ← HM.out, e])
      simp [this])
    clear hl
    go_enter Try.func73, Try.ntmps73
    have HB := hid (grow_refl w)
    go_wp2_with fail
    go_ret
    exact ⟨by rw [HF.out]; rfl, HB.out⟩
end Go.Proofs.Ytkbapegohodcgaa
