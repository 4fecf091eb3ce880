import Derived.Test.YtkibibgbmkejjaaQShaA
set_option linter.unusedSimpArgs false
set_option linter.unusedVariables false
namespace Go.Proofs.Ytkibibgbmkejjaa
open Go.RowKit Go.Qk
attribute [local go_sem ↓ high] add_w32 and_w32 or_w32 xor_w32 shr_w32 shl_w32 shr3_w32 shr10_w32 shr8_w32 shr16_w32 shr24_w32 shl8_w32
attribute [local go_sem high] not_w32 max_xor_w32

set_option maxHeartbeats 400000
set_option maxRecDepth 100000
theorem infoU32 : (Try.prog.info? 153).map (fun i => (i.zero, i.size, i.bytes)) = some (some (.int .u32 0), 1, 4) := by kernel_rfl
theorem wordWords (s : ByteArray) (n : Nat) (hs : s.size = 4 * n) (hn : n ≤ 1000000) (w : World) :
    Calls Try.prog 167 #[.string s] w fun e w' => ∃ v, e = .returned (.tuple #[v, .int .i64 0]) ∧ w'.ownsRow w.heap.size 153 1 v n (u32s (wordsOf (bl s) n)) ∧ Below w.heap.size w w' := by
  have HS := hid hs
  have h1 : ((s.size : Int)) = 4 * (n : Int) := by omega
  have t1 : ((s.size : Int) % 4 != 0) = false := by simp; omega
  have t2 : (s.size : Int) / 4 = n := by omega
  have H1 := hid h1
  clear hs h1
  obtain ⟨i0, hi, hz0, hz1, hz2⟩ := info_parts infoU32
  have HI := hid hi
  have HZ0 := hid hz0
  have HZ1 := hid hz1
  have HZ2 := hid hz2
  clear hi hz0 hz1 hz2
  go_enter Try.func167, Try.ntmps167
  go_wp2
  go_loopg [4, 15] (n + 1) (fun g v i wr => ∃ k : Nat, k ≤ n ∧ g = n - k + 1 ∧ i = .int .i64 k ∧ Hid (wr.ownsRow w.heap.size 153 1 v k (u32s (wordsOf (bl s) k))) ∧ Hid (Below w.heap.size w wr) ∧ Hid (w.heap.size ≤ wr.heap.size))
  case atStart => exact ⟨0, by omega, by omega, rfl, World.ownsRow_nil _ _ _ _, Below.refl _ _, Nat.le_refl _⟩
  case round =>
    obtain ⟨k, hk, hg, rfl, hO, hB, hL⟩ := hrel
    by_cases hlt : k < n
    · obtain ⟨wo, rfl⟩ : ∃ wo : World, wo = wr := ⟨_, rfl⟩
      go_wp2
      go_loopg [6, 18] 5 (fun g x i w1 => ∃ j : Nat, j ≤ 4 ∧ g = 4 - j + 1 ∧ i = .int .i64 j ∧ x = .int .u32 (w32 (wAt (bl s) k j)) ∧ Hid (Grow wo w1))
      case atStart => exact ⟨0, by omega, by omega, rfl, rfl, Below.refl _ _⟩
      case round =>
        obtain ⟨j, hj, hg, rfl, rfl, hG⟩ := hrel
        by_cases hjt : j < 4
        · have hlt2 : 4 * k + j < s.size := by have := HS.out; omega
          have hix : ∀ w, (Instr.index 9 (.string s) (.int .i64 (4 * (k : Int) + (j : Int)))).run Try.prog w = .ok (.int .u8 (w32 (UInt32.ofNat ((bl s).getD (4 * k + j) 0).toNat))) w := fun w => by
            rw [run_index_str 9 s (4 * k + j) hlt2 _ (by omega) w Try.underlying9, b8, ← byte_w32]
          have hb0 := w32_lo (UInt32.ofNat ((bl s).getD (4 * k + j) 0).toNat)
          have hb1 : w32 (UInt32.ofNat ((bl s).getD (4 * k + j) 0).toNat) < 256 := by rw [byte_w32]; have := ((bl s).getD (4 * k + j) 0).toNat_lt; omega
          have hst : (wAt (bl s) k j <<< 8) ||| UInt32.ofNat ((bl s).getD (4 * k + j) 0).toNat = wAt (bl s) k (j + 1) := rfl
          have HST := hid hst
          clear hst
          generalize UInt32.ofNat ((bl s).getD (4 * k + j) 0).toNat = cb at *
          go_wp2
          go_roundg (4 - (j + 1) + 1)
          case rel => exact ⟨j + 1, by omega, rfl, by go_num, by rw [← HST.out], hG⟩
          case measure => omega
        · obtain rfl : j = 4 := by omega
          have HO1 := hid (own_grow hO.out hG.out)
          have HB1 := hid (below_grow hB.out hL.out hG.out)
          have HL1 := hid (Nat.le_trans hL.out hG.out.size)
          go_wp2_with (at_builtin; refine app_cells (w0 := w) (B := w.heap.size) (.tmp 32) (.tmp 34) 139 153 (.int .u32 0) 1 4 _ k (u32s (wordsOf (bl s) k)) [.int .u32 (w32 (wAt (bl s) k 4))] ⟨wr.heap.size, 0, none⟩ 1 1 rfl rfl Try.underlying139 infoU32 rfl (by decide) rfl rfl rfl ?h2 ?h3 ?h1 ?h4 ?h6 ?h5 ?h7 ?_)
          case h1 => exact HO1.out.alloc _
          case h2 => exact cell_one_new _ _ _
          case h3 => simp [Value.oneCell']
          case h4 => exact HB1.out.alloc HL1.out _
          case h5 => omega
          case h7 => omega
          case h6 => simp; exact Nat.le_succ_of_le HL1.out
          intro v' w3 hown' hb3 hs3
          have e3 : u32s (wordsOf (bl s) k) ++ [.int .u32 (w32 (wAt (bl s) k 4))] = u32s (wordsOf (bl s) (k + 1)) := by rw [wordsOf_succ, u32s_append]; rfl
          rw [e3] at hown'
          have HO3 := hid hown'
          have HB3 := hid hb3
          have HS3 := hid hs3
          clear e3 hown' hb3 hs3
          go_wp2
          go_roundg (n - (k + 1) + 1)
          case rel => exact ⟨k + 1, by omega, rfl, by go_num, HO3, HB3, HS3⟩
          case measure => omega
    · obtain rfl : k = n := by omega
      go_wp2
      refine bodyPost_ret (results_tmp2 rfl _ _ _) rfl ?_
      exact ⟨_, rfl, hO.out, hB.out⟩
end Go.Proofs.Ytkibibgbmkejjaa
