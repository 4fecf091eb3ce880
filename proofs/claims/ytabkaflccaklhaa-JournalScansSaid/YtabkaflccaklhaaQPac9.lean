/- pack.Reader.Ids, Texts where they are there; the reference's Same on texts: contracts. -/
import Derived.Test.YtabkaflccaklhaaQPac8
set_option linter.unusedSimpArgs false
set_option linter.unusedVariables false
namespace Go.Proofs.Ytabkaflccaklhaa
open Go.RowKit
open Go.Qk hiding rotr b4
open Pac
set_option maxHeartbeats 1000000
set_option maxRecDepth 100000
theorem infoS1 : (Try.prog.info? 9).map (fun i => (i.zero, i.size, i.bytes)) = some (some (.string ByteArray.empty), 1, 16) := by kernel_rfl
theorem refSame05 (A B : Option Addr) (n m c d : Nat) (xs ys : List ByteArray) (w : World) (hx : StrRow w A xs) (hy : StrRow w B ys) (hn : xs.length = n) (hm : ys.length = m) :
    Calls Try.prog 22 #[.slice A n c, .slice B m d] w fun e w' => e = .returned (.bool (decide (xs = ys))) ∧ Below w.heap.size w w' := by
  subst hn hm
  have HX := hid hx
  have HY := hid hy
  have bx := hx.1
  have by' := hy.1
  clear hx hy
  by_cases hl : xs.length = ys.length
  · have HL := hid hl
    have tl : ((xs.length : Int) != (ys.length : Int)) = false := by simp; omega
    clear hl
    go_enter Try.func22, Try.ntmps22
    have HB := hid (grow_refl w)
    go_wp2_with fail
    go_loopg [5] (xs.length + 1) (fun z i wr => ∃ k : Nat, k ≤ xs.length ∧ z = xs.length + 1 - k ∧ i = .int .i64 (k : Int) ∧ Hid (sameTo k xs ys = true) ∧ Hid (Grow w wr))
    case atStart => exact ⟨0, by omega, by omega, rfl, hid (by simp [sameTo]), HB⟩
    case round =>
      clear HB tl
      obtain ⟨k, hk, hz, rfl, HS, HB⟩ := hrel
      by_cases hlt : k < xs.length
      · have k0 : (0 : Int) ≤ (k : Int) := by omega
        have k1 : (k : Int) < (xs.length : Int) := by omega
        have k2 : (k : Int) < (ys.length : Int) := by have := HL.out; omega
        obtain ⟨ad, rfl, hc⟩ := (HX.out.grow HB.out).at_ k hlt
        obtain ⟨bd, rfl, hd⟩ := (HY.out.grow HB.out).at_ k (by have := HL.out; omega)
        have HST := hid (sameTo_step HS.out hlt (by have := HL.out; omega))
        have HNE := hid (show xs.getD k ByteArray.empty ≠ ys.getD k ByteArray.empty → xs ≠ ys from fun h e => h (by rw [e]))
        have HC := hid hc
        have HD := hid hd
        clear hc hd
        generalize xs.getD k ByteArray.empty = x at *
        generalize ys.getD k ByteArray.empty = y at *
        go_wp2_with fail
        (refine' wp_region_head 9 0 [_, _, _, _, _, _, _, _, _] rfl (by kernel_rfl) (by kernel_rfl) ?hreg1; case' hreg1 => simp only [List.take_succ_cons, List.take_zero, List.zip_cons_cons, List.zip_nil_right, List.drop_succ_cons, List.drop_zero, List.drop_nil])
        (refine' head_val ?dw2 ?de2 ?dr2 ?dh2; (case' dw2 => rfl); (case' de2 => (first | exact fun _ _ _ => trivial | (intro t ht w; cases ht; simp [upE]))); (case' dr2 => (intro w' hw' _; go_simp; with_reducible rfl)); (case' dh2 => (try simp only [Act.put, List.setIfInBounds_toArray, List.set_cons_zero, List.set_cons_succ]))); (refine' head_val ?dw3 ?de3 ?dr3 ?dh3; (case' dw3 => rfl); (case' de3 => (first | exact fun _ _ _ => trivial | (intro t ht w; cases ht; simp [upE]))); (case' dr3 => (intro w' hw' _; go_simp; with_reducible rfl)); (case' dh3 => (try simp only [Act.put, List.setIfInBounds_toArray, List.set_cons_zero, List.set_cons_succ]))); (refine' head_val ?dw4 ?de4 ?dr4 ?dh4; (case' dw4 => rfl); (case' de4 => (first | exact fun _ _ _ => trivial | (intro t ht w; cases ht; simp [upE]))); (case' dr4 => (intro w' hw' _; go_simp; with_reducible rfl)); (case' dh4 => (try simp only [Act.put, List.setIfInBounds_toArray, List.set_cons_zero, List.set_cons_succ])))
        (refine' head_loadCell rfl ?_ rfl rfl (HC.out) Try.underlying9 rfl ?_; (first | exact fun _ _ _ => trivial | (intro t ht w; cases ht; simp [upE])); try simp only [Act.put, List.setIfInBounds_toArray, List.set_cons_zero, List.set_cons_succ])
        (refine' head_val ?dw5 ?de5 ?dr5 ?dh5; (case' dw5 => rfl); (case' de5 => (first | exact fun _ _ _ => trivial | (intro t ht w; cases ht; simp [upE]))); (case' dr5 => (intro w' hw' _; go_simp; with_reducible rfl)); (case' dh5 => (try simp only [Act.put, List.setIfInBounds_toArray, List.set_cons_zero, List.set_cons_succ]))); (refine' head_val ?dw6 ?de6 ?dr6 ?dh6; (case' dw6 => rfl); (case' de6 => (first | exact fun _ _ _ => trivial | (intro t ht w; cases ht; simp [upE]))); (case' dr6 => (intro w' hw' _; go_simp; with_reducible rfl)); (case' dh6 => (try simp only [Act.put, List.setIfInBounds_toArray, List.set_cons_zero, List.set_cons_succ]))); (refine' head_val ?dw7 ?de7 ?dr7 ?dh7; (case' dw7 => rfl); (case' de7 => (first | exact fun _ _ _ => trivial | (intro t ht w; cases ht; simp [upE]))); (case' dr7 => (intro w' hw' _; go_simp; with_reducible rfl)); (case' dh7 => (try simp only [Act.put, List.setIfInBounds_toArray, List.set_cons_zero, List.set_cons_succ])))
        (refine' head_loadCell rfl ?_ rfl rfl (HD.out) Try.underlying9 rfl ?_; (first | exact fun _ _ _ => trivial | (intro t ht w; cases ht; simp [upE])); try simp only [Act.put, List.setIfInBounds_toArray, List.set_cons_zero, List.set_cons_succ])
        (refine' head_val ?dw8 ?de8 ?dr8 ?dh8; (case' dw8 => rfl); (case' de8 => (first | exact fun _ _ _ => trivial | (intro t ht w; cases ht; simp [upE]))); (case' dr8 => (intro w' hw' _; go_simp; with_reducible rfl)); (case' dh8 => (try simp only [Act.put, List.setIfInBounds_toArray, List.set_cons_zero, List.set_cons_succ])))
        refine head_nil ?_
        intro w1 hb _
        replace HB := hid (Grow.trans HB.out hb)
        clear hb
        refine wpList_nil ?_
        generalize hzz : (!(x.toList == y.toList)) = zb
        have HZZ := hid hzz
        clear hzz
        cases zb with
        | false =>
          have hxy : x = y := by
            by_cases e : x = y
            · exact e
            · have h := HZZ.out
              rw [toList_beq_ne e] at h
              cases h
          have HS2 := hid (show sameTo (k + 1) xs ys = true by rw [HST.out]; simp [hxy])
          clear hxy HZZ
          go_wp2_with fail
          go_roundg (xs.length + 1 - (k + 1))
          case rel => exact ⟨k + 1, by omega, rfl, by go_num, HS2, HB⟩
          case measure => omega
        | true =>
          have hxy : x ≠ y := fun e => by
            have h := HZZ.out
            rw [e] at h
            simp at h
          have HF := hid (show decide (xs = ys) = false by simp [HNE.out hxy])
          clear hxy HZZ
          go_wp2_with fail
          go_ret
          exact ⟨by rw [HF.out]; rfl, HB.out⟩
      · have HE := hid (show decide (xs = ys) = true by simp [sameTo_all HS.out (by omega) HL.out])
        go_wp2_with fail
        go_ret
        exact ⟨by rw [HE.out]; rfl, HB.out⟩
  · have tl : ((xs.length : Int) != (ys.length : Int)) = true := by simp; omega
    have HF := hid (show decide (xs = ys) = false by simp; rintro rfl; exact hl rfl)
    clear hl
    go_enter Try.func22, Try.ntmps22
    have HB := hid (grow_refl w)
    go_wp2_with fail
    go_ret
    exact ⟨by rw [HF.out]; rfl, HB.out⟩
theorem rdIdsR (g : Nat) (L : List UInt8) (p most k0 : Nat) (xs : List (List UInt8)) (hp : p ≤ L.length) (hL : L.length ≤ 1000000000) (hR : numR L p = .ok xs.length k0) (hv : xs.length ≤ 100000) (hm : xs.length ≤ most) (h32 : ∀ s ∈ xs, s.length = 32)
    (hat : ∀ k, k < xs.length → (L.drop (p + k0 + 32 * k)).take 32 = xs.getD k [] ∧ p + k0 + 32 * k + 32 ≤ L.length) (w : World) (hg : w.heap[g]? = some (rdOb L p 0)) :
    Calls Try.prog 77 #[ptrV g, .int .i64 (most : Int)] w fun r w' => ∃ v, r = .returned v ∧ OwnIds 25 w.heap.size w' v xs ∧ w'.heap[g]? = some (rdOb L (p + k0 + 32 * xs.length) 0) ∧ Fr (fun k => k = g) w w' := by
  have HC := hid (rdIds g L p most k0 xs hp hL hR hv hm h32 hat w hg)
  clear hp hL hR hv hm h32 hat hg
  unfold ptrV at *
  go_enter Try.func77, Try.ntmps77
  have HB := hid (grow_refl w)
  go_wp2_with fail
  refine HC.out.mono ?_
  rintro _ w1 ⟨v, rfl, h1, h2, h3⟩
  have H1 := hid h1
  have H2 := hid h2
  have H3 := hid h3
  clear h1 h2 h3 HC
  go_wp2_with fail
  go_ret
  exact ⟨_, rfl, H1.out, H2.out, H3.out⟩
theorem take_strs (xs : List ByteArray) (k : Nat) (h : k < xs.length) : (xs.take (k + 1)).map Value.string = (xs.take k).map Value.string ++ [.string (xs.getD k ByteArray.empty)] := by
  rw [List.take_succ_eq_append_getElem h, List.map_append]
  congr 1
  simp [h]
end Go.Proofs.Ytabkaflccaklhaa
