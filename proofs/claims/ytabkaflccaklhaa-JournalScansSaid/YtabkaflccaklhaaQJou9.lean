/- quitclaimref25.All and Same: contracts. -/
import Derived.Test.YtabkaflccaklhaaQJou8
set_option linter.unusedSimpArgs false
set_option linter.unusedVariables false
namespace Go.Proofs.Ytabkaflccaklhaa
open Go.RowKit
open Go.Qk hiding rotr b4
open Pac
set_option maxHeartbeats 4000000
set_option maxRecDepth 100000
section
variable {P : Program} {ops : Array Oper} {W : World} {Qe : (Tmp → World → Prop) → Act → Prop} {o : Oper} {r : List (Oper × (Value → World → Prop))} {E : Tmp → World → Prop} {a : Act}
theorem head_loadG {x : Operand} {ad : Addr} {cs : List Value} {T : TypeId} {d : TypeDesc} (hwant : Region.wanted o (yielded ops a.tmps) = true) (hE : ∀ t, o.dst = some t → ∀ w, E t w)
    (ho : o.op = .load T x) (hx : a.eval x = .pointer (some ad)) (hc : ∀ j v, cs[j]? = some v → W.cell? (ad.add j) = some v) (hu : P.underlying T = some d) (hd : (match d with | .struct _ | .array _ _ => true | _ => false) = true) (hi : (P.info? T).map (·.size) = some cs.length)
    (h : Head P ops W Qe r E (a.put o.dst (.agg cs.toArray))) : Head P ops W Qe ((o, fun x _ => x = .agg cs.toArray) :: r) E a := by
  refine head_val hwant hE (fun w hw _ => ?_) h
  unfold execOp
  simp only [ho, hx, Sem.run_bind, Sem.run_pure, Result.andThen_ok, run_loadAt_agg (P := P) w ad T cs d (fun j v hj => grow_cell (hc j v hj) hw) hu hd hi]
end
theorem infoF25 (x : Int × List UInt8) : (Try.prog.info? 108).map (·.size) = some (fmCells x).length := by kernel_rfl
theorem fm_take_eq {fs gs : List (Int × List UInt8)} {k : Nat} (h : fs.take k = gs.take k) (h1 : k < fs.length) (h2 : k < gs.length) (e : fs.getD k fm0 = gs.getD k fm0) : fs.take (k + 1) = gs.take (k + 1) := by
  rw [fm_take fs k h1, fm_take gs k h2, h, e]
theorem fm_if {α : Sort _} (x y : Int × List UInt8) (A B : α) : (if x.fst = y.fst then if (bs x.snd).toList = (bs y.snd).toList then A else B else B) = if x = y then A else B := by
  obtain ⟨k, p⟩ := x
  obtain ⟨l, q⟩ := y
  by_cases hk : k = l
  · by_cases hp : p = q
    · subst hk; subst hp; simp
    · have h1 : ¬ (bs p).toList = (bs q).toList := fun h => hp (by
        have h2 : bs p = bs q := by
          by_cases e : bs p = bs q
          · exact e
          · have h3 := toList_beq_ne e
            rw [h] at h3
            simp at h3
        exact bs_inj h2)
      simp [hk, hp, h1]
  · simp [hk]
theorem refSame25 (A B : Option Addr) (n m d e : Nat) (fs gs : List (Int × List UInt8)) (w : World) (hx : FmRow w A fs) (hy : FmRow w B gs) (hn : fs.length = n) (hm : gs.length = m) :
    Calls Try.prog 15 #[.slice A n d, .slice B m e] w fun r w' => r = .returned (.bool (decide (fs = gs))) ∧ Below w.heap.size w w' := by
  have HX := hid hx
  have HY := hid hy
  have HN := hid hn
  have HM := hid hm
  have n9 : n ≤ 9223372036854775807 := by have := hx.1; omega
  have m9 : m ≤ 9223372036854775807 := by have := hy.1; omega
  clear hx hy hn hm
  by_cases hl : n = m
  · subst hl
    have tl : ((n : Int) != (n : Int)) = false := by simp
    go_enter Try.func15, Try.ntmps15
    have HB := hid (grow_refl w)
    go_wp2_with fail
    go_loopg [5] (n + 1) (fun z i wr => ∃ k : Nat, k ≤ n ∧ z = n + 1 - k ∧ i = .int .i64 (k : Int) ∧ Hid (fs.take k = gs.take k) ∧ Hid (Grow w wr))
    case atStart => exact ⟨0, by omega, by omega, rfl, hid (by simp), HB⟩
    case round =>
      clear HB tl
      obtain ⟨k, hk, hz, rfl, HS, HB⟩ := hrel
      by_cases hlt : k < n
      · have k0 : (0 : Int) ≤ (k : Int) := by omega
        have k1 : (k : Int) < (n : Int) := by omega
        have HK1 := hid (show k < fs.length by rw [HN.out]; exact hlt)
        have HK2 := hid (show k < gs.length by rw [HM.out]; exact hlt)
        obtain ⟨ad, rfl, hc⟩ := (HX.out.grow HB.out).at_ k HK1.out
        obtain ⟨bd, rfl, hd⟩ := (HY.out.grow HB.out).at_ k HK2.out
        have HC := hid hc
        have HD := hid hd
        have HST := hid (fun h => fm_take_eq HS.out HK1.out HK2.out h)
        have HNE := hid (show fs.getD k fm0 ≠ gs.getD k fm0 → fs ≠ gs from fun h e => h (by rw [e]))
        clear hc hd HS
        generalize fs.getD k fm0 = x at *
        generalize gs.getD k fm0 = y at *
        go_wp2_with fail
        (refine' wp_region_head 9 0 [_, _, _, _, _, _, _, _, _] rfl (by kernel_rfl) (by kernel_rfl) ?hreg13; case' hreg13 => simp only [List.take_succ_cons, List.take_zero, List.zip_cons_cons, List.zip_nil_right, List.drop_succ_cons, List.drop_zero, List.drop_nil])
        (refine' head_val ?dw14 ?de14 ?dr14 ?dh14; (case' dw14 => rfl); (case' de14 => (first | exact fun _ _ _ => trivial | (intro t ht w; cases ht; simp [upE]))); (case' dr14 => (intro w' hw' _; go_simp; with_reducible rfl)); (case' dh14 => (try simp only [Act.put, List.setIfInBounds_toArray, List.set_cons_zero, List.set_cons_succ]))); (refine' head_val ?dw15 ?de15 ?dr15 ?dh15; (case' dw15 => rfl); (case' de15 => (first | exact fun _ _ _ => trivial | (intro t ht w; cases ht; simp [upE]))); (case' dr15 => (intro w' hw' _; go_simp; with_reducible rfl)); (case' dh15 => (try simp only [Act.put, List.setIfInBounds_toArray, List.set_cons_zero, List.set_cons_succ]))); (refine' head_val ?dw16 ?de16 ?dr16 ?dh16; (case' dw16 => rfl); (case' de16 => (first | exact fun _ _ _ => trivial | (intro t ht w; cases ht; simp [upE]))); (case' dr16 => (intro w' hw' _; go_simp; with_reducible rfl)); (case' dh16 => (try simp only [Act.put, List.setIfInBounds_toArray, List.set_cons_zero, List.set_cons_succ])))
        (refine' head_loadG (cs := fmCells x) rfl ?_ rfl rfl HC.out Try.underlying108 rfl (infoF25 _) ?_; (first | exact fun _ _ _ => trivial | (intro t ht w; cases ht; simp [upE])); try simp only [Act.put, List.setIfInBounds_toArray, List.set_cons_zero, List.set_cons_succ])
        (refine' head_val ?dw17 ?de17 ?dr17 ?dh17; (case' dw17 => rfl); (case' de17 => (first | exact fun _ _ _ => trivial | (intro t ht w; cases ht; simp [upE]))); (case' dr17 => (intro w' hw' _; go_simp; with_reducible rfl)); (case' dh17 => (try simp only [Act.put, List.setIfInBounds_toArray, List.set_cons_zero, List.set_cons_succ]))); (refine' head_val ?dw18 ?de18 ?dr18 ?dh18; (case' dw18 => rfl); (case' de18 => (first | exact fun _ _ _ => trivial | (intro t ht w; cases ht; simp [upE]))); (case' dr18 => (intro w' hw' _; go_simp; with_reducible rfl)); (case' dh18 => (try simp only [Act.put, List.setIfInBounds_toArray, List.set_cons_zero, List.set_cons_succ]))); (refine' head_val ?dw19 ?de19 ?dr19 ?dh19; (case' dw19 => rfl); (case' de19 => (first | exact fun _ _ _ => trivial | (intro t ht w; cases ht; simp [upE]))); (case' dr19 => (intro w' hw' _; go_simp; with_reducible rfl)); (case' dh19 => (try simp only [Act.put, List.setIfInBounds_toArray, List.set_cons_zero, List.set_cons_succ])))
        (refine' head_loadG (cs := fmCells y) rfl ?_ rfl rfl HD.out Try.underlying108 rfl (infoF25 _) ?_; (first | exact fun _ _ _ => trivial | (intro t ht w; cases ht; simp [upE])); try simp only [Act.put, List.setIfInBounds_toArray, List.set_cons_zero, List.set_cons_succ])
        (refine' head_val (v := .bool (decide (x ≠ y))) ?dw20 ?de20 ?dr20 ?dh20; (case' dw20 => rfl); (case' de20 => (first | exact fun _ _ _ => trivial | (intro t ht w; cases ht; simp [upE]))); (case' dr20 => (intro w' hw' hE; (unfold fmCells; go_simp; rw [fm_if]; by_cases e : x = y <;> simp [e]))); (case' dh20 => (try simp only [Act.put, List.setIfInBounds_toArray, List.set_cons_zero, List.set_cons_succ])))
        refine head_nil ?_
        intro w1 hb _
        replace HB := hid (Grow.trans HB.out hb)
        clear hb
        refine wpList_nil ?_
        by_cases hxy : x = y
        · have HS2 := hid (HST.out hxy)
          have hdd : decide (x ≠ y) = false := by simp [hxy]
          rw [hdd]
          clear hxy hdd HNE HST
          go_wp2_with fail
          go_roundg (n + 1 - (k + 1))
          case rel => exact ⟨k + 1, by omega, rfl, by go_num, HS2, HB⟩
          case measure => omega
        · have HF := hid (show decide (fs = gs) = false by simp [HNE.out hxy])
          have hdd : decide (x ≠ y) = true := by simp [hxy]
          rw [hdd]
          clear hxy hdd HNE HST
          go_wp2_with fail
          go_ret
          exact ⟨by rw [HF.out]; rfl, HB.out⟩
      · obtain rfl : k = n := by omega
        have HF := hid (show decide (fs = gs) = true by
          have h := HS.out
          rw [List.take_of_length_le (by rw [HN.out]; omega), List.take_of_length_le (by rw [HM.out]; omega)] at h
          simp [h])
        go_wp2_with fail
        go_ret
        exact ⟨by rw [HF.out]; rfl, HB.out⟩
  · have tl : ((n : Int) != (m : Int)) = true := by simp; omega
    have HF := hid (show decide (fs = gs) = false by
      have : fs ≠ gs := fun e => hl (by rw [← HN.out, ← HM.out, e])
      simp [this])
    clear hl
    go_enter Try.func15, Try.ntmps15
    have HB := hid (grow_refl w)
    go_wp2_with fail
    go_ret
    exact ⟨by rw [HF.out]; rfl, HB.out⟩
end Go.Proofs.Ytabkaflccaklhaa
