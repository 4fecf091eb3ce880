/- pack.Writer: Id, Truth, Ids, Texts: contracts. -/
import Derived.Test.YtabkaflccaklhaaQPac4
import Derived.Test.YtabkaflccaklhaaQChn
import Derived.Test.YtabkaflccaklhaaQKit1
set_option linter.unusedSimpArgs false
set_option linter.unusedVariables false
namespace Go.Proofs.Ytabkaflccaklhaa
open Go.RowKit
open Go.Qk hiding rotr b4
open Pac
set_option maxHeartbeats 1000000
set_option maxRecDepth 100000
theorem wrId (B g : Nat) (a : List UInt8) (ha : a.length = 32) (l : List UInt8) (w : World) (hl : l.length ≤ 100000000) (hw : IsWr B w g l) :
    Calls Try.prog 134 #[ptrV g, idV a] w fun e w' => e = .returned (.tuple #[]) ∧ IsWr B w' g (l ++ a) ∧ Below B w w' := by
  obtain ⟨v, h1, h2, h3, h4⟩ := hw
  have HG := hid h1
  have HB0 := hid h2
  have HV := hid h3
  have HS := hid h4
  have HS0 := hid h4
  have HL := hid hl
  have HA := hid ha
  clear h1 h2 h3 h4 hl ha
  unfold ptrV
  go_enter Try.func134, Try.ntmps134
  have HB := hid (grow_refl w)
  apply wp_seq_k; intro _ _; apply wp_region_lit
  refine op_box (l := a) rfl rfl rfl ?_
  intro gb w1 hgl hgu hb hr
  have BXL := hid (Nat.le_trans HB.out.size hgl)
  replace HB := hid (Grow.trans HB.out hb)
  replace HG := hid (grow_block HG.out hb)
  replace HV := hid (HV.out.grow hb)
  replace HS := hid (Nat.le_trans HS.out (hb).size)
  have BX := hid hr; have BXU := hid hgu
  clear hr hgl hgu hb
  try simp only [Act.put, List.setIfInBounds_toArray, List.set_cons_zero, List.set_cons_succ]
  go_wp2_with fail
  refine wp_region_floatG (fun W => W.heap[g]? = some (wrO v) ∧ W.heap[gb]? = some (.cells (u8s a).toArray 25 (0, 0))) [0,1,2,3,4,5] [6] [7,8,9] rfl (by kernel_rfl) rfl (by kernel_rfl) (by kernel_rfl) ?_
  intro wf2 hb
  replace HB := hid (Grow.trans HB.out hb)
  replace HG := hid (grow_block HG.out hb)
  replace HV := hid (HV.out.grow hb)
  replace HS := hid (Nat.le_trans HS.out (hb).size)
  replace BX := hid (grow_block BX.out hb)
  clear hb
  refine ⟨⟨HG.out, BX.out⟩, ?_⟩
  (refine' pickT_val ?po1 ?pw1 ?pr1 ?pq1 ?ph1; (case' po1 => exact rfl); (case' pw1 => rfl); (case' pq1 => (exact fun _ _ _ h => h)); (case' pr1 => (intro w' hw'; go_simp; with_reducible rfl)); (case' ph1 => (try simp only [List.getElem_toArray, List.getElem_cons_zero, List.getElem_cons_succ, Act.put, List.setIfInBounds_toArray, List.set_cons_zero, List.set_cons_succ]))); (refine' pickT_val ?po2 ?pw2 ?pr2 ?pq2 ?ph2; (case' po2 => exact rfl); (case' pw2 => rfl); (case' pq2 => (exact fun _ _ _ h => h)); (case' pr2 => (intro w' hw'; go_simp; with_reducible rfl)); (case' ph2 => (try simp only [List.getElem_toArray, List.getElem_cons_zero, List.getElem_cons_succ, Act.put, List.setIfInBounds_toArray, List.set_cons_zero, List.set_cons_succ]))); (refine' pickT_val ?po3 ?pw3 ?pr3 ?pq3 ?ph3; (case' po3 => exact rfl); (case' pw3 => rfl); (case' pq3 => (exact fun _ _ _ h => h)); (case' pr3 => (intro w' hw'; go_simp; with_reducible rfl)); (case' ph3 => (try simp only [List.getElem_toArray, List.getElem_cons_zero, List.getElem_cons_succ, Act.put, List.setIfInBounds_toArray, List.set_cons_zero, List.set_cons_succ]))); (refine' pickT_val ?po4 ?pw4 ?pr4 ?pq4 ?ph4; (case' po4 => exact rfl); (case' pw4 => rfl); (case' pq4 => (exact fun _ _ _ h => h)); (case' pr4 => (intro w' hw'; go_simp; with_reducible rfl)); (case' ph4 => (try simp only [List.getElem_toArray, List.getElem_cons_zero, List.getElem_cons_succ, Act.put, List.setIfInBounds_toArray, List.set_cons_zero, List.set_cons_succ])))
  (refine' pickT_val (v := v) ?po5 ?pw5 ?pr5 ?pq5 ?ph5; (case' po5 => exact rfl); (case' pw5 => rfl); (case' pq5 => (exact fun _ _ _ h => h)); (case' pr5 => (intro w' hw'; exact run_opLoadC (i := 0) rfl rfl hw'.1 rfl Try.underlying51 rfl)); (case' ph5 => (try simp only [List.getElem_toArray, List.getElem_cons_zero, List.getElem_cons_succ, Act.put, List.setIfInBounds_toArray, List.set_cons_zero, List.set_cons_succ])))
  (refine' pickT_val ?po6 ?pw6 ?pr6 ?pq6 ?ph6; (case' po6 => exact rfl); (case' pw6 => rfl); (case' pq6 => (exact fun _ _ _ h => h)); (case' pr6 => (intro w' hw'; go_simp; with_reducible rfl)); (case' ph6 => (try simp only [List.getElem_toArray, List.getElem_cons_zero, List.getElem_cons_succ, Act.put, List.setIfInBounds_toArray, List.set_cons_zero, List.set_cons_succ])))
  refine pickT_nil ?_
  refine seqT_does rfl rfl (does_appOwn (news := u8s a) (m := 32) rfl Try.underlying51 infoU8 rfl (by decide) rfl rfl (by rw [u8s_length, HA.out]) (fun j u hj => cells_block (tl := []) (by rw [List.append_nil]; exact BX.out) j u hj) (u8s_one a) HV.out HS.out (by have := HL.out; omega) (by have := HL.out; omega)) ?_
  rintro v2 w4 ⟨ho, hg, hm⟩
  have HO := hid (show Buf 5 B w4 v2 (l ++ a) by unfold Buf; rw [u8s_append, List.length_append, HA.out]; exact ho)
  have HG4 := hid (blk_other' hg HG.out (own_ne_blk HV.out HG.out u8_ne_wri))
  have HX4 := hid (blk_other' hg BX.out (own_ne_blk HV.out BX.out (by decide)))
  have HR4 := hid hg
  clear ho hg hm
  refine ⟨⟨HG4.out, HX4.out⟩, ?_⟩
  refine seqT_nil ?_
  show wpList _ _ _ (_ :: _ :: _ :: []) _ _
  go_wp2_with (first | (refine op_store1 (i := 0) rfl rfl rfl rfl rfl HG4.out (own_cells HO.out) (own_oneCell HO.out) infoBs' (by simp) ?_) | fail)
  intro w5 hg5 hgr5 _
  have HZ := hid (wr_stored HG.out HB0.out HV.out HS.out HO.out HR4.out hg5 hgr5)
  have HZB := hid (Below.trans (HB.out.mono HS0.out) HZ.out.2)
  clear hg5 hgr5
  go_wp2_with fail
  go_end0
  exact ⟨rfl, HZ.out.1, HZB.out⟩
def truthB (t : Bool) : UInt8 := if t = true then 1 else 0
theorem wrIds (B g : Nat) (A : Option Addr) (n c : Nat) (xs : List (List UInt8)) (hn : xs.length = n) (h32 : ∀ s ∈ xs, s.length = 32) (hmax : n ≤ 100000) (l : List UInt8) (w : World) (hl : l.length ≤ 10000000) (hx : ∀ w', Below B w w' → IdRow w' A xs) (hw : IsWr B w g l) :
    Calls Try.prog 75 #[ptrV g, .slice A n c] w fun e w' => e = .returned (.tuple #[]) ∧ IsWr B w' g (l ++ (encN n ++ xs.flatten)) ∧ Below B w w' := by
  subst hn
  have HC := hid (wrNum B g xs.length l w (by omega) (by omega) hw)
  have HX := hid hx
  have H32 := hid h32
  have HL := hid hl
  have HEL := hid (encN_ten xs.length (by omega))
  have HI := hid (fun (a : List UInt8) (ha : a.length = 32) (l : List UInt8) (w : World) (hl : l.length ≤ 100000000) (hw : IsWr B w g l) => wrId B g a ha l w hl hw)
  clear hw hl hx h32
  unfold ptrV at *
  go_enter Try.func75, Try.ntmps75
  have HB := hid (grow_refl w)
  clear HB
  go_wp2_with fail
  refine HC.out.mono ?_
  rintro _ w2 ⟨rfl, hw, hb⟩
  have HW := hid hw
  have HB := hid hb
  clear hw hb HC
  go_wp2_with fail
  go_loopg [12] (xs.length + 1) (fun z i wr => ∃ k : Nat, k ≤ xs.length ∧ z = xs.length + 1 - k ∧ i = .int .i64 (k : Int) ∧ Hid (IsWr B wr g (l ++ (encN xs.length ++ (xs.take k).flatten))) ∧ Hid (Below B w wr))
  case atStart => exact ⟨0, by omega, by omega, rfl, by simpa using HW, HB⟩
  case round =>
    clear HW HB
    obtain ⟨k, hk, hz, rfl, HW, HB⟩ := hrel
    by_cases hlt : k < xs.length
    · have k0 : (0 : Int) ≤ (k : Int) := by omega
      have k1 : (k : Int) < (xs.length : Int) := by omega
      obtain ⟨ad, rfl, hc⟩ := (HX.out wr HB.out).at_ k hlt
      have HCE := hid hc
      have S1 := hid (getD_mem_len H32.out hlt)
      have HFL := hid (flatten_take_succ xs k hlt)
      have HLEN := hid (show (l ++ (encN xs.length ++ (xs.take k).flatten)).length ≤ 100000000 by
        have h1 := flatten_take_len xs H32.out k hk
        have := HL.out; have := HEL.out
        rw [List.length_append, List.length_append, h1]; omega)
      have HBW := hid (show B ≤ wr.heap.size from by obtain ⟨_, _, _, _, h⟩ := HW.out; exact h)
      clear hc
      generalize xs.getD k [] = x at *
      have HBG := hid (grow_refl wr)
      go_wp2_with (first | (refine op_loadAt (l := x) rfl rfl rfl HCE.out S1.out ?_) | (refine op_allocstore (l := x) rfl rfl rfl rfl rfl rfl (fun _ => rfl) ⟨fun _ => rfl, S1.out⟩ ?_) | fail)
      intro g3 w3 hgl hgu hb hr
      have HW3 := hid (HW.out.grow hb)
      have HB3 := hid (HB.out.trans (hb.mono HBW.out))
      have H3 := hid hr
      clear hgl hgu hb hr HCE
      go_wp2_with (first | (refine op_loadId rfl rfl rfl H3.out S1.out ?_) | fail)
      refine (HI.out x S1.out _ _ HLEN.out HW3.out).mono ?_
      rintro _ w4 ⟨rfl, hw, hb⟩
      have HW4 := hid (show IsWr B w4 g (l ++ (encN xs.length ++ (xs.take (k + 1)).flatten)) by rw [HFL.out, ← List.append_assoc (encN xs.length), ← List.append_assoc l]; exact hw)
      have HB4 := hid (HB3.out.trans hb)
      clear hw hb HW3 HB3 HW HB
      go_wp2_with fail
      go_roundg (xs.length + 1 - (k + 1))
      case rel => exact ⟨k + 1, by omega, rfl, by go_num, HW4, HB4⟩
      case measure => omega
    · obtain rfl : k = xs.length := by omega
      rw [List.take_length] at HW
      go_wp2_with fail
      go_end0
      exact ⟨rfl, HW.out, HB.out⟩
def encTs (xs : List ByteArray) : List UInt8 := xs.flatMap fun s => encN s.size ++ bl s
theorem encTs_snoc (xs : List ByteArray) (k : Nat) (h : k < xs.length) : encTs (xs.take (k + 1)) = encTs (xs.take k) ++ (encN (bl (xs.getD k ByteArray.empty)).length ++ bl (xs.getD k ByteArray.empty)) := by
  have e : xs.getD k ByteArray.empty = xs[k] := by simp [h]
  rw [List.take_succ_eq_append_getElem h, e, bl_length]
  unfold encTs
  rw [List.flatMap_append]
  congr 1
  simp
theorem encTs_len (xs : List ByteArray) (m : Nat) (hm : m ≤ 1000000) (h : ∀ s ∈ xs, s.size ≤ m) : (encTs xs).length ≤ xs.length * (m + 10) := by
  induction xs with
  | nil => simp [encTs]
  | cons x xs ih =>
    have h1 := ih fun s hs => h s (List.mem_cons_of_mem _ hs)
    have h2 := h x List.mem_cons_self
    have h3 := encN_ten x.size (by omega)
    have : encTs (x :: xs) = (encN x.size ++ bl x) ++ encTs xs := rfl
    rw [this, List.length_append, List.length_append, List.length_cons, bl_length, Nat.add_mul]
    omega
end Go.Proofs.Ytabkaflccaklhaa
