import Derived.Test.YtfkfhhkggpfcgaaQRefF
import Derived.Test.YtfkfhhkggpfcgaaQIdEq
set_option linter.unusedSimpArgs false
set_option linter.unusedVariables false
namespace Go.Proofs.Ytfkfhhkggpfcgaa
open Go.RowKit
open Go.Qk hiding rotr b4
set_option maxHeartbeats 1000000
set_option maxRecDepth 100000
theorem conv4 (W : World) (g : Nat) (F : List UInt8) (t : TypeId) (x0 x1 x2 x3 : UInt8) (hF : F.take 4 = [x0, x1, x2, x3]) (hl : F.length = 32) (hg : W.heap[g]? = some (.cells (u8s F).toArray t (0, 0))) :
    (convert 57 9 (.slice (some ⟨g, 0, none⟩) 4 32)).run Try.prog W = .ok (.string ⟨#[x0, x1, x2, x3]⟩) W := by
  refine run_str W _ 5 _ Try.underlying57 Try.underlying5 Try.underlying9 g 0 32 [x0, x1, x2, x3] (fun i hi => ?_) 4 rfl
  have hi4 : i < 4 := hi
  rw [Nat.zero_add, cell_u8 hg (grow_refl W) i (by omega), b8, b8, ← hF]
  simp [hi4, List.getElem?_take]
theorem awake02 (w : World) :
    Calls Try.prog 80 #[] w fun e w' => e = .returned (.bool true) ∧ Below w.heap.size w w' := by
  go_enter Try.func80, Try.ntmps80
  go_wp2_with fail
  refine (shaSum [] (by decide) _).mono ?_
  rintro e w1 ⟨rfl, hb1⟩
  go_wp2_with fail
  refine (shaSum [97, 98, 99] (by decide) _).mono ?_
  rintro e w2 ⟨rfl, hb2⟩
  have HB2 := hid (Grow.trans hb1 hb2)
  clear hb1 hb2
  have f1 := shaOf_length []
  have f2 : (shaOf []).take 4 = [227, 176, 196, 66] := by rw [sha_empty]; rfl
  have g1 := shaOf_length [97, 98, 99]
  have g2 : (shaOf [97, 98, 99]).take 4 = [186, 120, 22, 191] := by rw [sha_abc]; rfl
  have hne := id_neq (shaOf []) (shaOf [97, 98, 99]) f1 g1
  rw [show (shaOf [] == shaOf [97, 98, 99]) = false by rw [sha_empty, sha_abc]; decide] at hne
  generalize shaOf [] = F at *
  generalize shaOf [97, 98, 99] = G at *
  have F2 := hid f2
  have G2 := hid g2
  clear f2 g2
  unfold idV at *
  go_wp2_with (refine store_block 35 (.tmp 1) (.tmp 3) w2.heap.size 0 (u8s F) (u8s (zero8 32)) (u8s F) 35 rfl rfl rfl rfl rfl (heap_alloc2_old _ _ _) (by rw [szId, u8s_length, f1]) ?c1 (u8s_one _) ?c2 ?_)
  case c1 => simp [u8s_length, zero8, f1]
  case c2 => simp [u8s_length, f1, zero8]
  intro W3 hw3 hg3 hb3
  have HF3 := hid hw3
  have HG3 := hid ((hg3.block (w2.heap.size + 1) (by simp) (by simp)).trans (heap_alloc2_new _ _ _))
  have HB3 := hid (hb3 _ _ ((HB2.out.alloc HB2.out.size _).alloc (by simp; exact Nat.le_succ_of_le HB2.out.size) _) HB2.out.size)
  clear hw3 hg3 hb3
  go_wp2_with (refine store_block 35 (.tmp 2) (.tmp 4) (w2.heap.size + 1) 0 (u8s G) (u8s (zero8 32)) (u8s G) 35 rfl rfl rfl rfl rfl HG3.out (by rw [szId, u8s_length, g1]) ?d1 (u8s_one _) ?d2 ?_)
  case d1 => simp [u8s_length, zero8, g1]
  case d2 => simp [u8s_length, g1, zero8]
  intro W4 hw4 hg4 hb4
  have HG4 := hid hw4
  have HF4 := hid ((hg4.block w2.heap.size (Array.getElem?_eq_some_iff.1 HF3.out).1 (by simp)).trans HF3.out)
  have HB4 := hid (hb4 _ _ HB3.out (Nat.le_succ_of_le HB2.out.size))
  clear hw4 hg4 hb4 HG3 HF3 HB3
  have v1 := conv4 W4 w2.heap.size F _ _ _ _ _ F2.out f1 HF4.out
  have v2 := conv4 W4 (w2.heap.size + 1) G _ _ _ _ _ G2.out g1 HG4.out
  go_wp2_with (first | (refine wpList_load_agg rfl 35 (.tmp 1) rfl ⟨w2.heap.size, 0, none⟩ rfl (u8s F) _ (cells_block (tl := []) (by rw [List.append_nil]; exact HF4.out)) Try.underlying35 rfl (by rw [szId, u8s_length, f1]) ?_) | (refine wpList_load_agg rfl 35 (.tmp 2) rfl ⟨w2.heap.size + 1, 0, none⟩ rfl (u8s G) _ (cells_block (tl := []) (by rw [List.append_nil]; exact HG4.out)) Try.underlying35 rfl (by rw [szId, u8s_length, g1]) ?_))
  go_ret
  exact ⟨rfl, HB4.out⟩
end Go.Proofs.Ytfkfhhkggpfcgaa
