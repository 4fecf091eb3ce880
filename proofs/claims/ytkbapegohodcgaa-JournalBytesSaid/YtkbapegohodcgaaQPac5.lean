/- The law PackOnce: walk. -/
import Derived.Test.YtkbapegohodcgaaQPac4
set_option linter.unusedSimpArgs false
set_option linter.unusedVariables false
namespace Go.Proofs.Ytkbapegohodcgaa
open Go.RowKit
open Go.Qk hiding rotr b4
open Pac
set_option maxHeartbeats 2000000
set_option maxRecDepth 100000
theorem encN_300 : encN 300 = [172, 2] := by
  rw [encN_big (by decide), encN_small (by decide)]
  rfl
theorem wr_new {w W : World} {g : Nat} (h1 : w.heap.size ≤ g) (h2 : g < W.heap.size) (hr : W.heap[g]? = some (wrO (.slice none 0 0))) : IsWr w.heap.size W g [] := ⟨_, hr, h1, buf_nil _ _ _, by omega⟩
theorem awake05 (w : World) : Calls Try.prog 22 #[] w fun e w' => e = .returned (.bool true) ∧ Below w.heap.size w w' := by
  have HNR : Hid (numR [128, 0] 0 = .form) := hid (by simp [numR, rdN])
  go_enter Try.func22, Try.ntmps22
  have HB := hid (grow_refl w)
  clear HB
  go_wp2_with (first | (refine op_boxC (cs := #[.slice none 0 0]) rfl rfl rfl rfl ?_) | fail)
  intro g1 w1 hgl hgu hb hr
  have HW := hid (wr_new hgl hgu hr)
  have HB := hid (show Below w.heap.size w w1 from hb)
  clear hgl hgu hb hr
  go_wp2_with fail
  refine (wrNum w.heap.size g1 300 [] _ (by decide) (by decide) HW.out).mono ?_
  rintro _ w2 ⟨rfl, hw, hb⟩
  have HW2 := hid (show IsWr w.heap.size w2 g1 [172, 2] by rw [List.nil_append, encN_300] at hw; exact hw)
  have HB2 := hid (HB.out.trans hb)
  clear hw hb HW HB
  go_wp2_with fail
  refine (rdNew [128, 0] _).mono ?_
  rintro _ w3 ⟨g2, rfl, hgl, hg, hb⟩
  have HG3 := hid hg
  have HGL := hid hgl
  have HW3 := hid (HW2.out.grow hb)
  have HB3 := hid (HB2.out.trans (hb.mono HB2.out.size))
  have HSZ := hid HB2.out.size
  clear hgl hg hb HW2 HB2
  go_wp2_with fail
  refine (rdNum g2 [128, 0] 0 (by decide) (by decide) _ HG3.out).mono ?_
  rintro _ w4 ⟨rfl, hg, hf⟩
  rw [HNR.out] at hg ⊢
  have HG4 := hid (show w4.heap[g2]? = some (rdOb [128, 0] 0 3) from hg)
  have HW4 := hid (show IsWr w.heap.size w4 g1 [172, 2] from by
    obtain ⟨v, h1, h2, h3, h4⟩ := HW3.out
    have n1 : g1 ≠ g2 := blk_ne h1 HG3.out (by decide)
    have n2 := own_ne_blk h3 HG3.out (by decide)
    exact ⟨v, hf.blk h1 n1, h2, hf.own h3 (fun k hk e => n2 (e ▸ hk)), Nat.le_trans h4 hf.size⟩)
  have HB4 := hid (HB3.out.trans (hf.below (fun k hk => by subst hk; exact Nat.le_trans HSZ.out HGL.out) HB3.out.size))
  have e4 : valR .form = 0 := rfl
  rw [e4]
  clear hg hf HG3 HW3 HB3 e4
  have hq : (bs [172, 2]).toList = [172, 2] := by rw [toList_bl, bl_bs]
  go_wp2_with fail
  refine (wrString w.heap.size g1 [172, 2] _ HW4.out).mono ?_
  rintro _ w5 ⟨rfl, rfl⟩
  go_wp2_with fail
  refine (rdErr g2 [128, 0] 0 3 _ HG4.out).mono ?_
  rintro _ w5 ⟨rfl, rfl⟩
  go_wp2_with fail
  go_ret
  exact ⟨rfl, HB4.out⟩
theorem once_num (L : List UInt8) (h : endE L (posR 0 (numR L 0)) (errR (numR L 0)) = 0) : ∃ v k, numR L 0 = .ok v k ∧ v ≤ 4611686018427387904 ∧ encN v = L := by
  cases hR : numR L 0 with
  | short => rw [hR] at h; simp [endE, errR] at h
  | form => rw [hR] at h; simp [endE, errR] at h
  | ok v k =>
    obtain ⟨u, j, h1, h2, h3, h4, h5, h6, h7⟩ := rdN_once _ _ _ _ _ hR
    rw [hR] at h
    simp only [endE, errR, posR, Nat.zero_add] at h
    rw [List.drop_zero] at h4 h5
    have hk : ¬ k < L.length := fun hk => by rw [if_pos ⟨trivial, hk⟩] at h; cases h
    refine ⟨v, k, rfl, h7, ?_⟩
    have : v = u := by omega
    rw [this, h5, List.take_of_length_le (by omega)]
theorem once_text (L : List UInt8) (h : endE L (textR L 0 1000).2.1 (textR L 0 1000).2.2 = 0) : encN (textR L 0 1000).1.length ++ (textR L 0 1000).1 = L := by
  unfold textR at h ⊢
  cases hR : numR L 0 with
  | short => rw [hR] at h; simp [endE] at h
  | form => rw [hR] at h; simp [endE] at h
  | ok v k =>
    obtain ⟨u, j, h1, h2, h3, h4, h5, h6, h7⟩ := rdN_once _ _ _ _ _ hR
    rw [hR] at h
    rw [List.drop_zero] at h4 h5
    have e : v = u := by omega
    have ek : k = j := by omega
    simp only at h ⊢
    split at h
    · simp [endE] at h
    · rename_i n1
      rw [if_neg n1]
      split at h
      · rename_i n2
        rw [if_pos n2]
        simp only [endE, Nat.zero_add] at h ⊢ n2
        have hk : ¬ k + v < L.length := fun hk => by rw [if_pos ⟨trivial, hk⟩] at h; cases h
        have hl : ((L.drop k).take v).length = v := by simp; omega
        rw [hl, List.take_of_length_le (by simp; omega), e, h5, ek, List.take_append_drop]
      · simp [endE] at h
theorem textR_len (L : List UInt8) (p most : Nat) : (textR L p most).1.length ≤ L.length := by
  unfold textR
  split
  · split
    · simp
    · split
      · simp; omega
      · simp
  · simp
  · simp
theorem wr_keep {B : Nat} {w w1 : World} {g : Nat} {o : Obj} (h : w.heap[g]? = some o) (hb : Below B w w1) (hg : g < B) : w1.heap[g]? = some o := by rw [hb.block g hg]; exact h
theorem packOnce (L : List UInt8) (hL : L.length ≤ 140737488355328) (w : World) : Calls Try.prog 4 #[.string (bs L)] w fun e w' => e = .returned (.bool true) ∧ Below w.heap.size w w' := by
  have hsz := bs_size L
  by_cases h3 : 300 < L.length
  · go_enter Try.func4, Try.ntmps4
    have HB := hid (grow_refl w)
    go_wp2_with fail
    refine (awake05 _).mono ?_
    rintro e w1 ⟨rfl, hb⟩
    have HB1 := hid hb
    clear hb
    go_wp2_with fail
    go_ret
    exact ⟨rfl, HB1.out⟩
  have h3' : L.length ≤ 300 := by omega
  have HTL := hid (textR_len L 0 1000)
  have HON := hid (once_num L)
  have HOT := hid (once_text L)
  clear h3 hL
  go_enter Try.func4, Try.ntmps4
  have HB := hid (grow_refl w)
  clear HB
  go_wp2_with fail
  refine (rdNew L _).mono ?_
  rintro _ w1 ⟨g1, rfl, hgl, hg, hb⟩
  have HG1 := hid hg
  have HGL1 := hid hgl
  have HB1 := hid (show Below w.heap.size w w1 from hb)
  clear hgl hg hb
  go_wp2_with fail
  refine (rdNum g1 L 0 (by omega) (by omega) _ HG1.out).mono ?_
  rintro _ w2 ⟨rfl, hg, hf⟩
  have HG2 := hid hg
  have HB2 := hid (HB1.out.trans (hf.below (fun k hk => by subst hk; exact HGL1.out) HB1.out.size))
  clear hg hf HG1 HB1
  generalize numR L 0 = R at *
  generalize hvR : valR R = vR at *
  have HVR := hid hvR
  clear hvR
  go_wp2_with (first | (refine op_boxC (cs := #[.slice none 0 0]) rfl rfl rfl rfl ?_) | fail)
  intro g2 w3 hgl hgu hb hr
  have HW3 := hid (wr_new hgl hgu hr)
  have HG3 := hid (grow_block HG2.out hb)
  have HB3 := hid (HB2.out.trans (hb.mono HB2.out.size))
  have HSZ2 := hid HB2.out.size
  have HLT := hid (blk_lt HG2.out)
  clear hgl hgu hb hr HG2 HB2
  go_wp2_with fail
  refine (rdEnd g1 L _ _ _ HG3.out).mono ?_
  rintro _ w4 ⟨rfl, hb⟩
  have HW4 := hid (HW3.out.grow hb)
  have HB4 := hid (HB3.out.trans (hb.mono HB3.out.size))
  clear hb HW3 HB3 HG3
  by_cases hE1 : endE L (posR 0 R) (errR R) = 0
  · obtain ⟨v, k, hRv, hv62, hen⟩ := HON.out hE1
    have HEN := hid hen
    have hvv : vR = (v : Int) := by rw [← HVR.out, hRv]; rfl
    rw [hE1]
    rw [hvv]
    clear hE1 hRv hen hvv HON HVR
    go_wp2_with fail
    refine (wrNum _ g2 v [] _ hv62 (by simp) HW4.out).mono ?_
    rintro _ w5 ⟨rfl, hw, hb⟩
    have HW5 := hid (show IsWr w2.heap.size w5 g2 L by rw [List.nil_append, HEN.out] at hw; exact hw)
    have HB5 := hid (HB4.out.trans (hb.mono HSZ2.out))
    clear hw hb HW4 HB4
    go_wp2_with fail
    refine (wrString _ g2 L _ HW5.out).mono ?_
    rintro _ w6 ⟨rfl, rfl⟩
    clear HW5
    go_wp2_with fail
    refine (rdNew L _).mono ?_
    rintro _ w7 ⟨g3, rfl, hgl, hg, hb⟩
    have HG7 := hid hg
    have HGL3 := hid (Nat.le_trans HB5.out.size hgl)
    have HB7 := hid (HB5.out.trans (hb.mono HB5.out.size))
    clear hgl hg hb HB5
    go_wp2_with fail
    refine (rdText g3 L 0 1000 (by omega) (by omega) _ HG7.out).mono ?_
    rintro _ w8 ⟨rfl, hg, hf⟩
    have HG8 := hid hg
    have HB8 := hid (HB7.out.trans (hf.below (fun k hk => by subst hk; exact HGL3.out) HB7.out.size))
    clear hg hf HG7 HB7
    generalize textR L 0 1000 = tx at *
    go_wp2_with (first | (refine op_boxC (cs := #[.slice none 0 0]) rfl rfl rfl rfl ?_) | fail)
    intro g4 w9 hgl hgu hb hr
    have HW9 := hid (wr_new hgl hgu hr)
    have HG9 := hid (grow_block HG8.out hb)
    have HB9 := hid (HB8.out.trans (hb.mono HB8.out.size))
    have HSZ8 := hid HB8.out.size
    have HLT8 := hid (blk_lt HG8.out)
    clear hgl hgu hb hr HG8 HB8
    go_wp2_with fail
    refine (wrText _ g4 tx.1 [] _ (by have := HTL.out; omega) (by simp) HW9.out).mono ?_
    rintro _ w10 ⟨rfl, hw, hb⟩
    have HW10 := hid hw
    have HG10 := hid (wr_keep HG9.out hb HLT8.out)
    have HB10 := hid (HB9.out.trans (hb.mono HSZ8.out))
    clear hw hb HW9 HG9 HB9
    go_wp2_with fail
    refine (rdEnd g3 L _ _ _ HG10.out).mono ?_
    rintro _ w11 ⟨rfl, hb⟩
    have HW11 := hid (HW10.out.grow hb)
    have HB11 := hid (HB10.out.trans (hb.mono HB10.out.size))
    clear hb HW10 HG10 HB10
    by_cases hE2 : endE L tx.2.1 tx.2.2 = 0
    · have hte := HOT.out hE2
      rw [List.nil_append, hte] at HW11
      rw [hE2]
      clear hE2 hte
      go_wp2_with fail
      refine (wrString _ g4 L _ HW11.out).mono ?_
      rintro _ w12 ⟨rfl, rfl⟩
      go_wp2_with fail
      refine (awake05 _).mono ?_
      rintro _ w13 ⟨rfl, hb⟩
      have HB13 := hid (HB11.out.trans (hb.mono HB11.out.size))
      clear hb
      go_wp2_with fail
      go_ret
      exact ⟨rfl, HB13.out⟩
    · have t2 : (endE L tx.2.1 tx.2.2 == 0) = false := by simp [hE2]
      have t3 : (endE L tx.2.1 tx.2.2 != 0) = true := by simp [hE2]
      clear hE2
      go_wp2_with fail
      refine (awake05 _).mono ?_
      rintro _ w13 ⟨rfl, hb⟩
      have HB13 := hid (HB11.out.trans (hb.mono HB11.out.size))
      clear hb
      go_wp2_with fail
      go_ret
      exact ⟨rfl, HB13.out⟩
  · have t1 : (endE L (posR 0 R) (errR R) == 0) = false := by simp [hE1]
    have HE1 := hid hE1
    have HB5 := HB4
    clear hE1 HON
    go_wp2_with fail
    refine (rdNew L _).mono ?_
    rintro _ w7 ⟨g3, rfl, hgl, hg, hb⟩
    have HG7 := hid hg
    have HGL3 := hid (Nat.le_trans HB5.out.size hgl)
    have HB7 := hid (HB5.out.trans (hb.mono HB5.out.size))
    clear hgl hg hb HB5
    go_wp2_with fail
    refine (rdText g3 L 0 1000 (by omega) (by omega) _ HG7.out).mono ?_
    rintro _ w8 ⟨rfl, hg, hf⟩
    have HG8 := hid hg
    have HB8 := hid (HB7.out.trans (hf.below (fun k hk => by subst hk; exact HGL3.out) HB7.out.size))
    clear hg hf HG7 HB7
    generalize textR L 0 1000 = tx at *
    go_wp2_with (first | (refine op_boxC (cs := #[.slice none 0 0]) rfl rfl rfl rfl ?_) | fail)
    intro g4 w9 hgl hgu hb hr
    have HW9 := hid (wr_new hgl hgu hr)
    have HG9 := hid (grow_block HG8.out hb)
    have HB9 := hid (HB8.out.trans (hb.mono HB8.out.size))
    have HSZ8 := hid HB8.out.size
    have HLT8 := hid (blk_lt HG8.out)
    clear hgl hgu hb hr HG8 HB8
    go_wp2_with fail
    refine (wrText _ g4 tx.1 [] _ (by have := HTL.out; omega) (by simp) HW9.out).mono ?_
    rintro _ w10 ⟨rfl, hw, hb⟩
    have HW10 := hid hw
    have HG10 := hid (wr_keep HG9.out hb HLT8.out)
    have HB10 := hid (HB9.out.trans (hb.mono HSZ8.out))
    clear hw hb HW9 HG9 HB9
    go_wp2_with fail
    refine (rdEnd g3 L _ _ _ HG10.out).mono ?_
    rintro _ w11 ⟨rfl, hb⟩
    have HW11 := hid (HW10.out.grow hb)
    have HB11 := hid (HB10.out.trans (hb.mono HB10.out.size))
    clear hb HW10 HG10 HB10
    by_cases hE2 : endE L tx.2.1 tx.2.2 = 0
    · have hte := HOT.out hE2
      rw [List.nil_append, hte] at HW11
      rw [hE2]
      clear hE2 hte
      go_wp2_with fail
      refine (wrString _ g4 L _ HW11.out).mono ?_
      rintro _ w12 ⟨rfl, rfl⟩
      go_wp2_with fail
      refine (awake05 _).mono ?_
      rintro _ w13 ⟨rfl, hb⟩
      have HB13 := hid (HB11.out.trans (hb.mono HB11.out.size))
      clear hb
      go_wp2_with fail
      go_ret
      exact ⟨rfl, HB13.out⟩
    · have t2 : (endE L tx.2.1 tx.2.2 == 0) = false := by simp [hE2]
      have t3 : (endE L tx.2.1 tx.2.2 != 0) = true := by simp [hE2]
      clear hE2
      go_wp2_with fail
      refine (awake05 _).mono ?_
      rintro _ w13 ⟨rfl, hb⟩
      have HB13 := hid (HB11.out.trans (hb.mono HB11.out.size))
      clear hb
      go_wp2_with fail
      go_ret
      exact ⟨rfl, HB13.out⟩
theorem packOnceB (s : ByteArray) (hs : s.size ≤ 140737488351232) (w : World) : Calls Try.prog 4 #[.string s] w fun e w' => e = .returned (.bool true) ∧ Below w.heap.size w w' := by
  have := packOnce (bl s) (by rw [bl_length]; omega) w
  rw [bs_bl] at this
  exact this
end Go.Proofs.Ytkbapegohodcgaa
