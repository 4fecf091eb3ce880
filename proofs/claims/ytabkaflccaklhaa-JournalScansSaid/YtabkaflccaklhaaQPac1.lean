/- pack.Writer: Byte, Num, Text, String: contracts. -/
import Derived.Test.YtabkaflccaklhaaQDis1
import Derived.Test.YtabkaflccaklhaaQPacP
set_option linter.unusedSimpArgs false
set_option linter.unusedVariables false
namespace Go.Proofs.Ytabkaflccaklhaa
open Go.RowKit
open Go.Qk hiding rotr b4
open Pac
set_option maxHeartbeats 1000000
set_option maxRecDepth 100000
abbrev wrO (v : Value) : Obj := .cells #[v] 53 (0, 0)
def IsWr (B : Nat) (w : World) (g : Nat) (l : List UInt8) : Prop := ∃ v, w.heap[g]? = some (wrO v) ∧ B ≤ g ∧ Buf 5 B w v l ∧ B ≤ w.heap.size
theorem IsWr.grow {B : Nat} {w w1 : World} {g : Nat} {l : List UInt8} (h : IsWr B w g l) (hg : Grow w w1) : IsWr B w1 g l := by
  obtain ⟨v, h1, h2, h3, h4⟩ := h
  exact ⟨v, grow_block h1 hg, h2, h3.grow hg, Nat.le_trans h4 hg.size⟩
theorem infoBs' : (Try.prog.info? 51).map (·.size) = some 1 := by kernel_rfl
theorem u8_ne_wri : 5 ≠ 53 := by decide
theorem u8s_sing (b : UInt8) : u8s [b] = [.int .u8 (b.toNat : Int)] := rfl
/-- Behind the append the field is stored. -/
theorem wr_stored {B : Nat} {w w1 w2 : World} {g : Nat} {v v' : Value} {l l' : List UInt8} (hg : w.heap[g]? = some (wrO v)) (hB : B ≤ g) (hb : Buf 5 B w v l) (hs : B ≤ w.heap.size) (h1 : Buf 5 B w1 v' l') (hg1 : w.grownBy w1 v.ownBlock)
    (h2 : w2.heap[g]? = some (wrO v')) (hg2 : w1.grownBy w2 (some g)) : IsWr B w2 g l' ∧ Below B w w2 := by
  have n1 := own_ne_blk hb hg u8_ne_wri
  have b1 := blk_other' hg1 hg n1
  have n2 := own_ne_blk h1 b1 u8_ne_wri
  have f2 : Fr (fun k => k = g) w1 w2 := fr_grown hg2 (fun k hk => .inl (by injection hk with hk; exact hk.symm))
  have hbel : Below B w w1 := (fr_grown (D := fun k => v.ownBlock = some k) hg1 (fun k hk => .inl hk)).below (fun k hk => (own_lt hb hk).1) hs
  exact ⟨⟨v', h2, hB, f2.own h1 (fun k hk e => n2 (e ▸ hk)), Nat.le_trans hs (Nat.le_trans hg1.size hg2.size)⟩, hbel.trans (f2.below (fun k hk => by subst hk; exact hB) (Nat.le_trans hs hg1.size))⟩
theorem wrByte (B g : Nat) (b : UInt8) (l : List UInt8) (w : World) (hl : l.length ≤ 1000000000) (hw : IsWr B w g l) :
    Calls Try.prog 113 #[ptrV g, .int .u8 (b.toNat : Int)] w fun e w' => e = .returned (.tuple #[]) ∧ IsWr B w' g (l ++ [b]) ∧ Below B w w' := by
  obtain ⟨v, h1, h2, h3, h4⟩ := hw
  have HG := hid h1
  have HB0 := hid h2
  have HV := hid h3
  have HS := hid h4
  have HL := hid hl
  clear h1 h2 h3 h4 hl
  unfold ptrV
  go_enter Try.func113, Try.ntmps113
  have HB := hid (grow_refl w)
  go_wp2_with (first | (refine opG_load1 (i := 0) (v := v) rfl rfl rfl HG.out rfl Try.underlying51 rfl ?_) | (refine op_app1M (z := .int .u8 0) rfl rfl rfl rfl rfl rfl Try.underlying51 infoU8 rfl (fun _ => rfl) (fun _ => rfl) rfl rfl HV.out HS.out (by have := HL.out; omega) (by have := HL.out; omega) ?_) |  fail)
  intro sl v2 w2 ho hg hm
  have HO := hid (show Buf 5 B w2 v2 (l ++ [b]) by unfold Buf; rw [u8s_append, u8s_sing]; simpa using ho)
  have HG2 := hid (blk_other' hg HG.out (own_ne_blk HV.out HG.out u8_ne_wri))
  have HR2 := hid hg
  clear ho hg hm
  go_wp2_with (first | (refine op_store1 (i := 0) rfl rfl rfl rfl rfl HG2.out (own_cells HO.out) (own_oneCell HO.out) infoBs' (by simp) ?_) | fail)
  intro w3 hg3 hgr3 _
  have HZ := hid (wr_stored HG.out HB0.out HV.out HS.out HO.out HR2.out hg3 hgr3)
  clear hg3 hgr3
  go_wp2_with fail
  go_end0
  exact ⟨rfl, HZ.out.1, HZ.out.2⟩
theorem wrString (B g : Nat) (l : List UInt8) (w : World) (hw : IsWr B w g l) :
    Calls Try.prog 26 #[ptrV g] w fun e w' => e = .returned (.string (bs l)) ∧ w = w' := by
  obtain ⟨v, h1, h2, h3, h4⟩ := hw
  have HG := hid h1
  have hcv := buf_str (P := Try.prog) 51 5 9 Try.underlying51 Try.underlying5 Try.underlying9 _ _ h3
  clear h1 h2 h3 h4
  unfold ptrV
  go_enter Try.func26, Try.ntmps26
  have HB := hid (grow_refl w)
  go_wp2_with (first | (refine opG_load1 (i := 0) (v := v) rfl rfl rfl HG.out rfl Try.underlying51 rfl ?_) |  fail)
  go_ret
  exact ⟨rfl, rfl⟩
theorem by_128 (u : Nat) : ((u : Int) % 128 + 128) % 256 = ((UInt8.ofNat (u % 128 + 128)).toNat : Int) := by
  simp
theorem by_low (u : Nat) (h : u < 128) : (u : Int) = ((UInt8.ofNat u).toNat : Int) := by
  simp
  omega
theorem orF128 : ∀ x : Fin 256, bits .or .u8 ((x.val : Nat) : Int) 128 = ((x.val : Nat) : Int) % 128 + 128 := by decide +kernel
theorem or_128 (u : Nat) : bits .or .u8 ((u : Int) % 256) 128 = ((u : Int) % 128 + 128) % 256 := by
  have h := orF128 ⟨u % 256, Nat.mod_lt _ (by decide)⟩
  rw [show ((u : Int) % 256) = ((u % 256 : Nat) : Int) by omega, h]
  show ((u % 256 : Nat) : Int) % 128 + 128 = _
  omega
theorem encN_ten (v : Nat) (h : v ≤ 4611686018427387904) : (encN v).length ≤ 10 := by
  have : (128 : Nat) ^ (9 + 1) = 1180591620717411303424 := by decide
  exact encN_len 9 v (by omega)
theorem wrNum_no (g : Nat) (v : Int) (w : World) (h : v < 0 ∨ 4611686018427387904 < v) :
    Calls Try.prog 74 #[ptrV g, .int .i64 v] w fun e w' => e = .returned (.bool false) ∧ w = w' := by
  unfold ptrV
  rcases h with h | h
  · go_enter Try.func74, Try.ntmps74
    have HB := hid (grow_refl w)
    go_wp2_with fail
    go_ret
    exact ⟨rfl, rfl⟩
  · have h0 : ¬ v < 0 := by omega
    go_enter Try.func74, Try.ntmps74
    have HB := hid (grow_refl w)
    go_wp2_with fail
    go_ret
    exact ⟨rfl, rfl⟩
theorem wrNum (B g : Nat) (v : Nat) (l : List UInt8) (w : World) (hv : v ≤ 4611686018427387904) (hl : l.length ≤ 100000000) (hw : IsWr B w g l) :
    Calls Try.prog 74 #[ptrV g, .int .i64 (v : Int)] w fun e w' => e = .returned (.bool true) ∧ IsWr B w' g (l ++ encN v) ∧ Below B w w' := by
  have HW := hid hw
  have HL := hid hl
  have HBL := hid (Below.refl B w)
  have v0 : ¬ (v : Int) < 0 := by omega
  have v1 : (v : Int) ≤ 4611686018427387904 := by omega
  clear hw hl
  unfold ptrV
  go_enter Try.func74, Try.ntmps74
  have HB := hid (grow_refl w)
  clear HB
  go_wp2_with fail
  clear v0
  go_loopg [1] (v + 1) (fun z x wr => ∃ (u : Nat) (pre : List UInt8), z = u + 1 ∧ u ≤ v ∧ x = .int .i64 (u : Int) ∧ Hid (encN v = pre ++ encN u) ∧ Hid (IsWr B wr g (l ++ pre)) ∧ Hid (Below B w wr))
  case atStart => exact ⟨v, [], rfl, Nat.le_refl _, rfl, hid rfl, by simpa using HW, HBL⟩
  case round =>
    clear HW HBL
    obtain ⟨u, pre, hz, huv, rfl, HE, HW, HBL⟩ := hrel
    have u0 : (0 : Int) ≤ (u : Int) := by omega
    have HPL := hid (show (l ++ pre).length ≤ 1000000000 by
      have h1 := encN_ten v hv
      rw [HE.out, List.length_append] at h1
      have := HL.out
      rw [List.length_append]; omega)
    by_cases hlt : u < 128
    · have HEN := hid (encN_small hlt)
      have HC := hid (wrByte B g (UInt8.ofNat u) (l ++ pre) wr HPL.out HW.out)
      rw [← by_low u hlt] at HC
      clear HW
      go_wp2_with fail
      refine HC.out.mono ?_
      rintro e w2 ⟨rfl, hw, hb⟩
      have HW2 := hid (show IsWr B w2 g (l ++ encN v) by rw [HE.out, HEN.out, ← List.append_assoc]; exact hw)
      have HB2 := hid (HBL.out.trans hb)
      clear hw hb HC
      go_wp2_with fail
      go_ret
      exact ⟨rfl, HW2.out, HB2.out⟩
    · have HEN := hid (encN_big hlt)
      have HC := hid (wrByte B g (UInt8.ofNat (u % 128 + 128)) (l ++ pre) wr HPL.out HW.out)
      rw [← by_128 u] at HC
      have HU := hid hlt
      have hor := or_128 u
      clear HW
      go_wp2_with fail
      refine HC.out.mono ?_
      rintro e w2 ⟨rfl, hw, hb⟩
      have HW2 := hid (show IsWr B w2 g (l ++ (pre ++ [UInt8.ofNat (u % 128 + 128)])) by rw [← List.append_assoc]; exact hw)
      have HB2 := hid (HBL.out.trans hb)
      have HE2 := hid (show encN v = (pre ++ [UInt8.ofNat (u % 128 + 128)]) ++ encN (u / 128) by rw [HE.out, HEN.out, List.append_assoc]; rfl)
      clear hw hb HC
      go_wp2_with fail
      go_roundg (u / 128 + 1)
      case rel => exact ⟨u / 128, _, rfl, by omega, by go_num, HE2, HW2, HB2⟩
      case measure => have := HU.out; omega
theorem wrText (B g : Nat) (s : List UInt8) (l : List UInt8) (w : World) (hs : s.length ≤ 100000000) (hl : l.length ≤ 100000000) (hw : IsWr B w g l) :
    Calls Try.prog 114 #[ptrV g, .string (bs s)] w fun e w' => e = .returned (.tuple #[]) ∧ IsWr B w' g (l ++ (encN s.length ++ s)) ∧ Below B w w' := by
  have HC := hid (wrNum B g s.length l w (by omega) hl hw)
  have HL := hid hl
  have HSL := hid hs
  have HEL := hid (encN_ten s.length (by omega))
  have hsz := bs_size s
  clear hw hl hs
  unfold ptrV at *
  go_enter Try.func114, Try.ntmps114
  have HB := hid (grow_refl w)
  go_wp2_with fail
  refine HC.out.mono ?_
  rintro e w2 ⟨rfl, ⟨v, h1, h2, h3, h4⟩, hb⟩
  have HG := hid h1
  have HB0 := hid h2
  have HV := hid h3
  have HS := hid h4
  have HB2 := hid hb
  clear h1 h2 h3 h4 hb HC HB
  have hlen : (l ++ encN s.length).length ≤ 200000000 := by have := HEL.out; have := HL.out; rw [List.length_append]; omega
  have HLEN := hid hlen
  clear hlen
  go_wp2_with (first | (refine opG_load1 (i := 0) (v := v) rfl rfl rfl HG.out rfl Try.underlying51 rfl ?_) | (refine op_appStr (t := 51) (u := 9) (e := 5) (B := B) rfl rfl Try.underlying51 Try.underlying9 infoU8 rfl rfl HV.out HS.out (by have := HLEN.out; have := HSL.out; rw [hsz]; omega) ?_) |  fail)
  intro v3 w3 ho hg
  have HO := hid (show Buf 5 B w3 v3 (l ++ encN s.length ++ s) by rw [List.append_assoc]; simpa only [bl_bs] using ho)
  have HG3 := hid (blk_other' hg HG.out (own_ne_blk HV.out HG.out u8_ne_wri))
  have HR3 := hid hg
  clear ho hg
  go_wp2_with (first | (refine op_store1 (i := 0) rfl rfl rfl rfl rfl HG3.out (own_cells HO.out) (own_oneCell HO.out) infoBs' (by simp) ?_) | fail)
  intro w4 hg4 hgr4 _
  have HZ := hid (wr_stored HG.out HB0.out HV.out HS.out HO.out HR3.out hg4 hgr4)
  clear hg4 hgr4
  go_wp2_with fail
  go_end0
  exact ⟨rfl, by rw [← List.append_assoc]; exact HZ.out.1, HB2.out.trans HZ.out.2⟩
end Go.Proofs.Ytabkaflccaklhaa
