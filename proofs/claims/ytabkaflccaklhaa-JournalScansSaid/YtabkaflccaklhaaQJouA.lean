/- quitclaimlaw25.plain: contract. -/
import Derived.Test.YtabkaflccaklhaaQJou9
set_option linter.unusedSimpArgs false
set_option linter.unusedVariables false
namespace Go.Proofs.Ytabkaflccaklhaa
open Go.RowKit
open Go.Qk hiding rotr b4
open Pac
set_option maxHeartbeats 4000000
set_option maxRecDepth 100000
theorem infoF25z : (Try.prog.info? 108).map (fun i => (i.zero, i.size, i.bytes)) = some (some (.agg #[.int .i64 0, .string ByteArray.empty]), 2, 24) := by kernel_rfl
def fmAll (fs : List (Int × List UInt8)) : List Value := fs.flatMap fmCells
theorem fmAll_snoc (fs : List (Int × List UInt8)) (x : Int × List UInt8) : fmAll (fs ++ [x]) = fmAll fs ++ fmCells x := by simp [fmAll]
theorem plain25 (A : Option Addr) (n d : Nat) (fs : List (Int × List UInt8)) (w : World) (hx : FmRow w A fs) (hn : fs.length = n) (hb : n * 24 ≤ 140737488355328) :
    Calls Try.prog 14 #[.slice A n d] w fun e w' => Below w.heap.size w w' ∧ (((∀ x ∈ fs, x.2.length ≤ 300) ∧ ∃ v, e = .returned (.tuple #[v, .bool (decide (n ≤ 12))]) ∧ w'.ownsRow w.heap.size 108 2 v n (fmAll fs)) ∨ ((¬ ∀ x ∈ fs, x.2.length ≤ 300) ∧ e = .returned (.tuple #[.slice none 0 0, .bool false]))) := by
  have HX := hid hx
  have HN := hid hn
  have HBD := hid hb
  have n9 : n ≤ 9223372036854775807 := by have := hx.1; omega
  clear hx hn hb
  go_enter Try.func14, Try.ntmps14
  have HB := hid (grow_refl w)
  go_wp2_with fail
  go_loopg [4, 9] (n + 1) (fun z v i wr => ∃ k : Nat, k ≤ n ∧ z = n + 1 - k ∧ i = .int .i64 (k : Int) ∧ Hid (wr.ownsRow w.heap.size 108 2 v k (fmAll (fs.take k))) ∧ Hid (∀ x ∈ fs.take k, x.2.length ≤ 300) ∧ Hid (Grow w wr))
  case atStart => exact ⟨0, by omega, by omega, rfl, hid (World.ownsRow_nil _ _ _ _), hid (fun _ h => by cases h), HB⟩
  case round =>
    clear HB
    obtain ⟨k, hk, hz, rfl, HO, HA, HB⟩ := hrel
    have k0 : (0 : Int) ≤ (k : Int) := by omega
    by_cases hlt : k < n
    · have k1 : (k : Int) < (n : Int) := by omega
      have hkl : k < fs.length := by rw [HN.out]; exact hlt
      obtain ⟨ad, rfl, hc⟩ := (HX.out.grow HB.out).at_ k hkl
      have HTK := hid (fm_take fs k hkl)
      have HMM := hid (show fs.getD k fm0 ∈ fs by simp [hkl])
      generalize fs.getD k fm0 = y at *
      obtain ⟨ki, p⟩ := y
      have HCC := hid hc
      clear hc
      go_wp2_with (first | (refine wpList_load_agg rfl 101 _ rfl _ rfl (fmCells (ki, p)) _ HCC.out Try.underlying101 rfl (infoFm _) ?_) | (refine op_allocstoreB (z := [.int .i64 0, .string ByteArray.empty]) (cs := fmCells (ki, p)) rfl rfl rfl rfl rfl rfl (fun _ => by kernel_rfl) (fun _ => rfl) (fun _ => rfl) rfl (infoFm _) (oneFm _) ?_) | fail)
      intro g7 w3 hgl hgu hb hr
      have H7 := hid (show w3.heap[g7]? = some (.cells #[.int .i64 ki, .string (bs p)] 101 (0, 0)) from hr)
      replace HO := hid (own_grow HO.out hb)
      replace HB := hid (Grow.trans HB.out hb)
      clear hgl hgu hb hr HCC
      by_cases hp : p.length ≤ 300
      · have hq : decide ((300 : Int) < ((bs p).size : Int)) = false := by rw [bs_size]; simp; omega
        have HP := hid hp
        clear hp
        have HSZ := hid HB.out.size
        go_wp2_with (first | (refine opG_load1 (i := 0) (v := .int .i64 ki) rfl rfl rfl H7.out rfl Try.underlying3 rfl ?_) | (refine opG_load1 (i := 1) (v := .string (bs p)) rfl rfl rfl H7.out rfl Try.underlying9 rfl ?_) | (refine op_appOwn (n := k) (m := 1) (B := w.heap.size) (news := [.int .i64 ki, .string (bs p)]) rfl rfl Try.underlying28 infoF25z rfl (by decide) rfl rfl rfl (slF _ _ _) (fun h => by cases h) oneFr (own_grow HO.out (grow_alloc _ _)) (Nat.le_trans HSZ.out (grow_alloc _ _).size) (by have := HBD.out; omega) (by have := HBD.out; omega) ?_) | fail)
        intro v1 wb ho1 hg1 hm1
        have hga := grow_alloc w3 (Obj.cells #[.int .i64 ki, .string (bs p)] 108)
        have HB1 := hid (show Grow w wb from Below.trans (show Below w.heap.size w _ from Grow.trans HB.out hga) ((fr_grown (D := fun k => _) hg1 (fun k hk => .inl hk)).below (fun k hk => (own_lt (own_grow HO.out hga) hk).1) (Nat.le_trans HSZ.out hga.size)))
        clear hg1 hm1 hga
        have HO1 := hid ho1
        clear ho1
        go_wp2_with fail
        go_roundg (n + 1 - (k + 1))
        case rel => exact ⟨k + 1, by omega, rfl, by go_num, hid (by rw [HTK.out, fmAll_snoc]; exact HO1.out), hid (by rw [HTK.out]; intro x hx; rcases List.mem_append.1 hx with h | h; exact HA.out x h; obtain rfl := List.mem_singleton.1 h; exact HP.out), HB1⟩
        case measure => omega
      · have hq : decide ((300 : Int) < ((bs p).size : Int)) = true := by rw [bs_size]; simp; omega
        have HP := hid (show ¬ ∀ x ∈ fs, x.2.length ≤ 300 from fun h => hp (h _ HMM.out))
        clear hp
        go_wp2_with (first | (refine opG_load1 (i := 1) (v := .string (bs p)) rfl rfl rfl H7.out rfl Try.underlying9 rfl ?_) | fail)
        go_ret2
        exact ⟨HB.out, .inr ⟨HP.out, rfl⟩⟩
    · obtain rfl : k = n := by omega
      have HTT := hid (List.take_of_length_le (show fs.length ≤ k by rw [HN.out]; omega))
      rw [HTT.out] at HO HA
      have hd : decide ((k : Int) ≤ 12) = decide (k ≤ 12) := by congr 1; apply propext; omega
      go_wp2_with fail
      go_ret2
      exact ⟨HB.out, .inl ⟨HA.out, _, by first | rfl | (rw [hd]), HO.out⟩⟩
end Go.Proofs.Ytabkaflccaklhaa
