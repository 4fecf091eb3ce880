/- journal.All where a frame may not be: contract. -/
import Derived.Test.YtabkaflccaklhaaQJouA
set_option linter.unusedSimpArgs false
set_option linter.unusedVariables false
namespace Go.Proofs.Ytabkaflccaklhaa
open Go.RowKit
open Go.Qk hiding rotr b4
open Pac
set_option maxHeartbeats 4000000
set_option maxRecDepth 100000
theorem mem_take_at {fs : List (Int × List UInt8)} {k : Nat} {x : Int × List UInt8} (h : x ∈ fs.take k) : ∃ i, i < k ∧ fs.getD i fm0 = x := by
  obtain ⟨i, hi, e⟩ := List.mem_take_iff_getElem.1 h
  have h1 : i < fs.length := by omega
  refine ⟨i, by omega, ?_⟩
  rw [← e, List.getD_eq_getElem?_getD, List.getElem?_eq_getElem h1]
  rfl
theorem jouAll_bad (A : Option Addr) (n d j : Nat) (fs : List (Int × List UInt8)) (w : World) (hx : FmRow w A fs) (hn : fs.length = n) (hj : j < n) (hok : ∀ i, i < j → fmOk (fs.getD i fm0)) (hbad : (fs.getD j fm0).1 < 1 ∨ 255 < (fs.getD j fm0).1) (hsz : ∀ k, k ≤ n → fmSize (fs.take k) ≤ 500000000) :
    Calls Try.prog 16 #[.slice A n d] w fun e w' => e = .returned (.tuple #[.string ByteArray.empty, .int .i64 1]) ∧ Below w.heap.size w w' := by
  have HX := hid hx
  have HN := hid hn
  have HOK := hid hok
  have HSZ := hid hsz
  have HJ := hid hj
  have HBAD := hid hbad
  have n9 : n ≤ 9223372036854775807 := by have := hx.1; omega
  clear hx hn hok hsz hj hbad
  go_enter Try.func16, Try.ntmps16
  have HB := hid (grow_refl w)
  go_wp2_with fail
  have hga := grow_alloc w (Obj.cells #[Value.pointer none, Value.slice none 0 0] 114)
  have hna := heap_alloc_new w (Obj.cells #[Value.pointer none, Value.slice none 0 0] 114)
  generalize w.alloc (Obj.cells #[Value.pointer none, Value.slice none 0 0] 114) = w1 at *
  obtain ⟨b, hb⟩ : ∃ b, b = w.heap.size := ⟨_, rfl⟩
  have HBS := hid (show w.heap.size ≤ b from Nat.le_of_eq hb.symm)
  rw [← hb] at hna ⊢
  have HBD1 := hid (show IsBd w.heap.size b [] w1 from .inl ⟨HBS.out, .slice none 0 0, hna, World.ownsRow_nil _ _ _ _, by simp [Value.ownBlock]⟩)
  have HB1 := hid hga
  clear hga hna hb HB
  refine (jouBegin _).mono ?_
  rintro _ w2 ⟨rfl, hb⟩
  have HBD2 := hid (HBD1.out.grow hb)
  have HB := hid (Grow.trans HB1.out hb)
  clear hb HBD1 HB1
  go_wp2_with (first |  (refine op_allocstore (l := beginL) rfl rfl rfl rfl rfl rfl (fun _ => rfl) ⟨fun _ => rfl, beginL_length⟩ ?_))
  intro g5 w1 hgl hgu hb hr
  have XL := hid (Nat.le_trans HB.out.size hgl)
  replace HB := hid (Grow.trans HB.out hb)
  replace HBD2 := hid (HBD2.out.grow hb)
  have X := hid hr; have XU := hid hgu
  clear hr hgl hgu hb
  try simp only [Act.put, List.setIfInBounds_toArray, List.set_cons_zero, List.set_cons_succ]
  have HGL5 := XL
  clear XU XL
  go_wp2_with fail
  go_loopg [13] (n + 1) (fun z i wr => ∃ k : Nat, k ≤ j ∧ z = n + 1 - k ∧ i = .int .i64 (k : Int) ∧ Hid (IsBd w.heap.size b (allF beginL ((fs.take k).map fmG)) wr) ∧ Hid (wr.heap[g5]? = some (.cells (u8s (chainF beginL ((fs.take k).map fmG))).toArray 25 (0, 0))) ∧ Hid (w.heap.size ≤ g5) ∧ Hid (Grow w wr))
  case atStart => exact ⟨0, by omega, by omega, rfl, HBD2, X, HGL5, HB⟩
  case round =>
    clear HBD2 X HB HGL5
    obtain ⟨k, hk, hz, rfl, HBD, HG, HGL, HB⟩ := hrel
    have k0 : (0 : Int) ≤ (k : Int) := by omega
    have HC := hid (chainF_length ((fs.take k).map fmG) beginL beginL_length)
    have hjn := HJ.out
    have k1 : (k : Int) < (n : Int) := by omega
    have hkl : k < fs.length := by rw [HN.out]; omega
    clear hjn
    by_cases hlt : k < j
    · have hjn := HJ.out
      have hkn : k < n := by omega
      clear hjn
      obtain ⟨ad, rfl, hc⟩ := (HX.out.grow HB.out).at_ k hkl
      have hok := HOK.out k hlt
      have htk := fm_take fs k hkl
      have hsz1 := HSZ.out (k + 1) (by omega)
      rw [htk, fmSize_snoc] at hsz1
      have hal := allF_snoc ((fs.take k).map fmG) beginL (fmG (fs.getD k fm0)).1 (fmG (fs.getD k fm0)).2
      have HTK := hid (show (fs.take (k + 1)).map fmG = (fs.take k).map fmG ++ [fmG (fs.getD k fm0)] by rw [htk]; simp)
      obtain ⟨q1, q2⟩ := fmG_kind hok
      have hps := hok.2.2
      generalize fs.getD k fm0 = y at *
      obtain ⟨ki, p⟩ := y
      obtain ⟨kb, hkb⟩ : ∃ kb, kb = (fmG (ki, p)).1 := ⟨_, rfl⟩
      have hgp : fmG (ki, p) = (kb, p) := by rw [hkb]; rfl
      rw [← hkb] at q1 q2
      rw [hgp] at hal HTK
      dsimp only at q1 hal hsz1 hps
      subst q1
      have HAL := hid hal
      have HCC := hid hc
      have HQ := hid q2
      have HPS := hid hps
      have hbl : (allF beginL ((fs.take k).map fmG)).length ≤ fmSize (fs.take k) := allF_len _ _ (fun x hx => by obtain ⟨i, hi, e⟩ := mem_take_at hx; rw [← e]; exact HOK.out i (by omega))
      have HLL := hid (show (allF beginL ((fs.take k).map fmG)).length + (frameB (chainF beginL ((fs.take k).map fmG)) kb p).length ≤ 1000000000 by have := frameB_len (chainF beginL ((fs.take k).map fmG)) p kb hps; omega)
      clear hc hok htk hsz1 hal hkb hgp hbl q2 hps
      generalize chainF beginL ((fs.take k).map fmG) = c at *
      generalize allF beginL ((fs.take k).map fmG) = T at *
      go_wp2_with (first | (refine wpList_load_agg rfl 101 _ rfl _ rfl (fmCells ((kb.toNat : Int), p)) _ HCC.out Try.underlying101 rfl (infoFm _) ?_) | (refine op_allocstoreB (z := [.int .i64 0, .string ByteArray.empty]) (cs := fmCells ((kb.toNat : Int), p)) rfl rfl rfl rfl rfl rfl (fun _ => by kernel_rfl) (fun _ => rfl) (fun _ => rfl) rfl (infoFm _) (oneFm _) ?_) | fail)
      intro g7 w3 hgl hgu hb hr
      have H7 := hid (show w3.heap[g7]? = some (.cells #[.int .i64 (kb.toNat : Int), .string (bs p)] 101 (0, 0)) from hr)
      replace HBD := hid (HBD.out.grow hb)
      replace HG := hid (grow_block HG.out hb)
      replace HB := hid (Grow.trans HB.out hb)
      clear hgl hgu hb hr HCC
      go_wp2_with (first | (refine op_loadId rfl rfl rfl HG.out HC.out ?_) | (refine opG_loadB rfl rfl rfl H7.out Try.underlying101 rfl rfl ?_) | fail)
      refine (jouBytes c p kb HC.out HPS.out HQ.out _).mono ?_
      rintro _ w4 ⟨rfl, hb⟩
      replace HBD := hid (HBD.out.grow hb)
      replace HG := hid (grow_block HG.out hb)
      replace H7 := hid (grow_block H7.out hb)
      replace HB := hid (Grow.trans HB.out hb)
      have hsw : w.heap.size ≤ w4.heap.size := HB.out.size
      clear hb
      go_wp2_with fail
      refine (bdWrite w.heap.size b T (frameB c kb p) _ HLL.out hsw HBD.out).mono ?_
      rintro _ w5 ⟨rfl, hbd, hb, hkp⟩
      replace HBD := hid hbd
      replace HG := hid (hkp _ _ _ _ HG.out (by decide) (by decide))
      replace H7 := hid (hkp _ _ _ _ H7.out (by decide) (by decide))
      replace HB := hid (show Grow w w5 from Below.trans (show Below w.heap.size w w4 from HB.out) hb)
      clear hbd hb hkp hsw
      go_wp2_with (first | (refine op_loadId rfl rfl rfl HG.out HC.out ?_) | (refine opG_loadB rfl rfl rfl H7.out Try.underlying101 rfl rfl ?_) | fail)
      refine (jouNext c p kb HC.out HPS.out HQ.out _).mono ?_
      rintro _ w6 ⟨rfl, hb⟩
      replace HBD := hid (HBD.out.grow hb)
      replace HG := hid (grow_block HG.out hb)
      replace HB := hid (Grow.trans HB.out hb)
      clear hb H7
      go_wp2_with (first | (refine op_storeId (l := nextL c kb p) rfl rfl rfl rfl rfl HG.out HC.out (nextL_length c kb p) ?_) | fail)
      intro w7 hW hgr hbel
      replace HBD := hid (HBD.out.grown hgr HG.out (by decide) (by decide))
      replace HB := hid (show Grow w w7 from hbel _ _ HB.out HGL.out)
      replace HG := hid hW
      clear hW hgr hbel
      go_wp2_with fail
      go_roundg (n + 1 - (k + 1))
      case rel => exact ⟨k + 1, by omega, rfl, by go_num, hid (by rw [HTK.out, HAL.out.1]; exact HBD.out), hid (by rw [HTK.out, HAL.out.2]; exact HG.out), HGL, HB⟩
      case measure => omega
    · obtain rfl : k = j := by omega
      clear HOK HSZ HJ
      generalize chainF beginL ((fs.take k).map fmG) = c at *
      generalize allF beginL ((fs.take k).map fmG) = T at *
      obtain ⟨ad, rfl, hc⟩ := (HX.out.grow HB.out).at_ k hkl
      generalize fs.getD k fm0 = y at *
      obtain ⟨ki, p⟩ := y
      have HCC := hid hc
      clear hc
      go_wp2_with (first | (refine wpList_load_agg rfl 101 _ rfl _ rfl (fmCells (ki, p)) _ HCC.out Try.underlying101 rfl (infoFm _) ?_) | (refine op_allocstoreB (z := [.int .i64 0, .string ByteArray.empty]) (cs := fmCells (ki, p)) rfl rfl rfl rfl rfl rfl (fun _ => by kernel_rfl) (fun _ => rfl) (fun _ => rfl) rfl (infoFm _) (oneFm _) ?_) | fail)
      intro g7 w3 hgl hgu hb hr
      have H7 := hid (show w3.heap[g7]? = some (.cells #[.int .i64 ki, .string (bs p)] 101 (0, 0)) from hr)
      replace HG := hid (grow_block HG.out hb)
      replace HB := hid (Grow.trans HB.out hb)
      clear hgl hgu hb hr HCC
      go_wp2_with (first | (refine op_loadId rfl rfl rfl HG.out HC.out ?_) | (refine opG_loadB rfl rfl rfl H7.out Try.underlying101 rfl rfl ?_) | fail)
      refine (jouBytes_bad _ (bs p) ki HBAD.out HC.out _).mono ?_
      rintro _ w4 ⟨rfl, hb⟩
      replace HB := hid (Grow.trans HB.out hb)
      clear hb
      go_wp2_with fail
      go_ret2
      exact ⟨rfl, HB.out⟩
end Go.Proofs.Ytabkaflccaklhaa
