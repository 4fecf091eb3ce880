import Derived.Test.YtkibibgbmkejjaaQShaD
import Derived.Laws.CopyOwn
set_option linter.unusedSimpArgs false
set_option linter.unusedVariables false
namespace Go.Proofs.Ytkibibgbmkejjaa
open Go.RowKit
open Go.Qk hiding rotr b4
attribute [local go_sem ↓ high] add_w32 and_w32 or_w32 xor_w32 shr_w32 shl_w32 shr3_w32 shr10_w32 shr8_w32 shr16_w32 shr24_w32 shl8_w32
attribute [local go_sem high] not_w32 max_xor_w32

set_option maxHeartbeats 3000000
set_option maxRecDepth 100000
/-- The row of 64 words, so many of them known. -/
def wRow (b : List UInt8) (n : Nat) : List UInt32 := sched b n ++ zeros (48 - n)
theorem wRow_length (b : List UInt8) (n : Nat) (h : n ≤ 48) : (wRow b n).length = 64 := by simp [wRow, sched_length, zeros_length]; omega
theorem wRow_get (b : List UInt8) (n j : Nat) (h : j < 16 + n) : (wRow b n).getD j 0 = (sched b n).getD j 0 := by
  simp [wRow, List.getElem?_append_left (show j < (sched b n).length by rw [sched_length]; exact h)]
theorem wRow_set (b : List UInt8) (n : Nat) (h : n < 48) : (u32s (wRow b n)).toArray.setIfInBounds (16 + n) (.int .u32 (w32 (ext (sched b n) (16 + n)))) = (u32s (wRow b (n + 1))).toArray := by
  have h1 : wRow b n = sched b n ++ 0 :: zeros (48 - (n + 1)) := by
    rw [wRow, show 48 - n = (48 - (n + 1)) + 1 from by omega]
    rfl
  have h2 : wRow b (n + 1) = sched b n ++ ext (sched b n) (16 + n) :: zeros (48 - (n + 1)) := by simp [wRow, sched]
  rw [h1, h2]
  have hl := sched_length b n
  simp [u32s, ← hl, List.setIfInBounds_toArray]
theorem wRow_start (b : List UInt8) : (u32s (zeros 64)).take 0 ++ (u32s (wordsOf b 16) ++ (u32s (zeros 64)).drop (0 + (u32s (wordsOf b 16)).length)) = u32s (wRow b 0) := by
  have hl : (u32s (wordsOf b 16)).length = 16 := by rw [u32s_length, wordsOf_length]
  rw [hl, wRow, u32s_append]
  rfl
theorem wRow_full (b : List UInt8) : wRow b 48 = sched b 48 := by simp [wRow, zeros]

theorem szU32 : (Try.prog.info? 153).map (·.size) = some 1 := by kernel_rfl
theorem shaAddC (g : Nat) (t : TypeId) (h : List UInt32) (tl : List Value) (s : ByteArray) (hh : h.length = 8) (hs : s.size = 64) (w : World) (hg : w.heap[g]? = some (.cells (u32s h ++ tl).toArray t (0, 0))) :
    Calls Try.prog 154 #[.pointer (some ⟨g, 0, none⟩), .string s] w fun e w' => e = .returned (.tuple #[]) ∧
      w'.heap[g]? = some (.cells (u32s (shaAdd h (bl s)) ++ tl).toArray t (0, 0)) ∧ w.grownBy w' (some g) := by
  have HG := hid hg
  have HH := hid hh
  have HS := hid hs
  have hlt : g < w.heap.size := (Array.getElem?_eq_some_iff.1 hg).1
  have HLT := hid hlt
  clear hg hh hs hlt
  go_enter Try.func154, Try.ntmps154
  apply wp_seq_k; intro _ _; apply wp_region_lit
  refine wpList_val (v := .pointer (some ⟨w.heap.size, 0, none⟩)) (w' := w.alloc (.cells (u32s (zeros 64)).toArray 175)) rfl (by kernel_rfl) ?_
  have hg0 : (w.alloc (.cells (u32s (zeros 64)).toArray 175)).heap[w.heap.size]? = some (.cells (u32s (zeros 64)).toArray 175 (0, 0)) := heap_alloc_new _ _
  have hb0 : Grow w (w.alloc (.cells (u32s (zeros 64)).toArray 175)) := grow_alloc _ _
  generalize w.alloc (.cells (u32s (zeros 64)).toArray 175) = W at *
  have HW := hid hg0
  have HB := hid hb0
  clear hg0 hb0
  simp only [Act.put, List.setIfInBounds_toArray, List.set_cons_zero, List.set_cons_succ]
  refine wpList_nil ?_
  go_wp2_with fail
  refine (wordWords s 16 HS.out (by omega) _).mono ?_
  rintro e W1 ⟨v, rfl, hown, hb⟩
  obtain ⟨gv, cap, rfl, _, _⟩ := own_form hown (by omega)
  have hcell := fun j u hj => World.ownsRow.cells hown (g := gv) rfl j u hj
  have HC := hid hcell
  have HW1 := hid (grow_block HW.out hb)
  have HB1 := hid (HB.out.trans hb)
  clear hown hcell hb
  go_wp2_with (refine copy_block (.tmp 23) (.tmp 24) 139 139 153 w.heap.size 0 64 64 ⟨gv, 0, none⟩ 16 cap (u32s (wordsOf (bl s) 16)) (u32s (zeros 64)) 175 (u32s (wRow (bl s) 0)) rfl rfl Try.underlying139 szU32 rfl rfl HW1.out ?c1 HC.out ?c3 (u32s_one _) (wRow_start _) ?_)
  case c1 => rw [u32s_length, wordsOf_length]; rfl
  case c3 => rw [u32s_length, wordsOf_length]; simp [u32s_length, zeros_length]
  intro W2 hw2 _ hb2
  have HW2 := hid hw2
  have HB2 := hid (hb2 _ _ HB1.out (Nat.le_refl _))
  clear hw2 hb2
  clear HC HW1 HB1 HW HB
  go_wp2
  go_loopg [7] 49 (fun q i wr => ∃ n : Nat, 16 ≤ n ∧ n ≤ 64 ∧ q = 65 - n ∧ i = .int .i64 n ∧ Hid (wr.heap[w.heap.size]? = some (.cells (u32s (wRow (bl s) (n - 16))).toArray 175 (0, 0))) ∧ Hid (Grow w wr))
  case atStart => exact ⟨16, by omega, by omega, rfl, rfl, HW2, HB2⟩
  case round =>
    obtain ⟨n, hn0, hn, hq, rfl, hR, hB⟩ := hrel
    clear HW2 HB2
    by_cases hlt : n < 64
    · have hl64 := wRow_length (bl s) (n - 16) (by omega)
      have cg : ∀ j, j < n → ∀ w', Grow wr w' → w'.cell? ⟨w.heap.size, j, none⟩ = some (.int .u32 (w32 ((sched (bl s) (n - 16)).getD j 0))) := fun j hj w' hw' => by rw [cell_u32 hR.out hw' _ (by omega), wRow_get _ _ _ (by omega)]
      have CG := hid cg
      clear cg
      have i1 : (n : Int) - 15 = ((n - 15 : Nat) : Int) := by omega
      have i2 : (n : Int) - 2 = ((n - 2 : Nat) : Int) := by omega
      have j1 : ((n - 15 : Nat) : Int) < 64 := by omega
      have j2 : ((n - 2 : Nat) : Int) < 64 := by omega
      have e1 : IntKind.i64.wrap ((n - 15 : Nat) : Int) = ((n - 15 : Nat) : Int) := by simp [IntKind.wrap, IntKind.signed, IntKind.bits]; omega
      have e2 : IntKind.i64.wrap ((n - 2 : Nat) : Int) = ((n - 2 : Nat) : Int) := by simp [IntKind.wrap, IntKind.signed, IntKind.bits]; omega
      have c1 := CG.out (n - 15) (by omega)
      have c2 := CG.out (n - 2) (by omega)
      have HX := hid (ext_eq (sched (bl s) (n - 16)) n)
      generalize (sched (bl s) (n - 16)).getD (n - 15) 0 = x at *
      generalize (sched (bl s) (n - 16)).getD (n - 2) 0 = y at *
      go_wp2
      (refine' wp_region_head 10 0 [_, _, _, _, _, _, _, _, _, _] rfl (by kernel_rfl) (by kernel_rfl) ?hreg1; case' hreg1 => simp only [List.take_succ_cons, List.take_zero, List.zip_cons_cons, List.zip_nil_right, List.drop_succ_cons, List.drop_zero, List.drop_nil])
      (iterate 10 (refine' head_val ?_ ?_ ?_ ?_; rotate_left; (· rfl); (· first | exact fun _ _ _ => trivial | (intro t ht w; cases ht; simp [upE])); (· intro w' hw' _; go_simp; with_reducible rfl); simp only [Act.put, List.setIfInBounds_toArray, List.set_cons_zero, List.set_cons_succ]))
      refine head_nil ?_
      intro w3 hw3 _
      refine wpList_nil ?_
      clear c1 c2 i1 i2 j1 j2 e1 e2
      have c1 := fun w' (hw' : Grow w3 w') => CG.out (n - 16) (by omega) w' (Grow.trans hw3 hw')
      have c2 := fun w' (hw' : Grow w3 w') => CG.out (n - 7) (by omega) w' (Grow.trans hw3 hw')
      have HB3 := hid (Grow.trans hB.out hw3)
      have HR3 := hid (grow_block hR.out hw3)
      clear hw3
      generalize (sched (bl s) (n - 16)).getD (n - 16) 0 = x0 at *
      generalize (sched (bl s) (n - 16)).getD (n - 7) 0 = y0 at *
      have i1 : (n : Int) - 16 = ((n - 16 : Nat) : Int) := by omega
      have i2 : (n : Int) - 7 = ((n - 7 : Nat) : Int) := by omega
      have j1 : ((n - 16 : Nat) : Int) < 64 := by omega
      have j2 : ((n - 7 : Nat) : Int) < 64 := by omega
      have j3 : (n : Int) < 64 := by omega
      have e1 : IntKind.i64.wrap ((n - 16 : Nat) : Int) = ((n - 16 : Nat) : Int) := by simp [IntKind.wrap, IntKind.signed, IntKind.bits]; omega
      have e2 : IntKind.i64.wrap ((n - 7 : Nat) : Int) = ((n - 7 : Nat) : Int) := by simp [IntKind.wrap, IntKind.signed, IntKind.bits]; omega
      go_wp2
      (refine' wp_region_head 21 1 [_, _, _, _, _, _, _, _, _, _, _, _, _, _, _, _, _, _, _, _, _] rfl (by kernel_rfl) (by kernel_rfl) ?hreg2; case' hreg2 => simp only [List.take_succ_cons, List.take_zero, List.zip_cons_cons, List.zip_nil_right, List.drop_succ_cons, List.drop_zero, List.drop_nil])
      (iterate 8 (refine' head_val ?_ ?_ ?_ ?_; rotate_left; (· rfl); (· first | exact fun _ _ _ => trivial | (intro t ht w; cases ht; simp [upE])); (· intro w' hw' _; go_simp; with_reducible rfl); simp only [Act.put, List.setIfInBounds_toArray, List.set_cons_zero, List.set_cons_succ]))
      (refine' head_call ?cw3 ?ce3 ?cr3 ?cc3 ?ch3; (case' cw3 => rfl); (case' ce3 => (first | exact fun _ _ _ => trivial | (intro t ht w; cases ht; simp [upE]))); (case' cr3 => (intro w'; go_simp; first | exact ⟨rfl, rfl⟩ | with_reducible rfl)); (case' cc3 => (intro w' hw' _; exact shaThree x (x >>> 3) 7 18 (by omega) (by omega) (by omega) (by omega) (by decide +kernel) (by decide +kernel) (by decide +kernel) (by decide +kernel) w')); (case' ch3 => (try simp only [Act.put, List.setIfInBounds_toArray, List.set_cons_zero, List.set_cons_succ])))
      (iterate 9 (refine' head_val ?_ ?_ ?_ ?_; rotate_left; (· rfl); (· first | exact fun _ _ _ => trivial | (intro t ht w; cases ht; simp [upE])); (· intro w' hw' _; go_simp; with_reducible rfl); simp only [Act.put, List.setIfInBounds_toArray, List.set_cons_zero, List.set_cons_succ]))
      (refine' head_call ?cw4 ?ce4 ?cr4 ?cc4 ?ch4; (case' cw4 => rfl); (case' ce4 => (first | exact fun _ _ _ => trivial | (intro t ht w; cases ht; simp [upE]))); (case' cr4 => (intro w'; go_simp; first | exact ⟨rfl, rfl⟩ | with_reducible rfl)); (case' cc4 => (intro w' hw' _; exact shaThree y (y >>> 10) 17 19 (by omega) (by omega) (by omega) (by omega) (by decide +kernel) (by decide +kernel) (by decide +kernel) (by decide +kernel) w')); (case' ch4 => (try simp only [Act.put, List.setIfInBounds_toArray, List.set_cons_zero, List.set_cons_succ])))
      (iterate 2 (refine' head_val ?_ ?_ ?_ ?_; rotate_left; (· rfl); (· first | exact fun _ _ _ => trivial | (intro t ht w; cases ht; simp [upE])); (· intro w' hw' _; go_simp; with_reducible rfl); simp only [Act.put, List.setIfInBounds_toArray, List.set_cons_zero, List.set_cons_succ]))
      refine head_nil ?_
      intro w4 hw4 _
      have c4 : w4.cell? ⟨w.heap.size, n, none⟩ = some (.int .u32 (w32 ((wRow (bl s) (n - 16)).getD n 0))) := cell_u32 HR3.out hw4 n (by omega)
      have f4 : w4.frozen? ⟨w.heap.size, n, none⟩ = false := frozen_of_row w4 _ n _ _ (grow_block HR3.out hw4)
      have HB4 := hid (Grow.trans HB3.out hw4)
      have HR4 := hid (grow_block HR3.out hw4)
      clear c1 c2 i1 i2 j1 j2 e1 e2 hw4
      go_wp2
      go_roundg (65 - (n + 1))
      case rel =>
        refine ⟨n + 1, by omega, by omega, rfl, by go_num, ?_, hid (HB4.out.setCell (Nat.le_refl _) _)⟩
        have h2 := heap_setCell_same w4 w.heap.size n (u32s (wRow (bl s) (n - 16))).toArray 175 (.int .u32 (w32 (ext (sched (bl s) (n - 16)) n))) HR4.out
        have h3 := wRow_set (bl s) (n - 16) (by omega)
        rw [show 16 + (n - 16) = n from by omega] at h3
        rw [h3, ← HX.out] at h2
        rw [show n + 1 - 16 = n - 16 + 1 from by omega]
        exact h2
      case measure => omega
    · obtain rfl : n = 64 := by omega
      have hRR := hR.out
      rw [show 64 - 16 = 48 from rfl, wRow_full] at hRR
      have HR1 := hid hRR
      clear hRR hR
      have HGr := hid (grow_block HG.out hB.out)
      have hwlt : w.heap.size < wr.heap.size := (Array.getElem?_eq_some_iff.1 HR1.out).1
      have HWL := hid hwlt
      clear hwlt
      go_wp2_with (first | (refine wpList_load_agg rfl 159 (.tmp 60) rfl ⟨g, 0, none⟩ rfl (u32s h) _ (cells_block HGr.out) Try.underlying159 rfl (by rw [szState, u32s_length, HH.out]) ?_) | (refine store_block 159 (.tmp 10) (.tmp 61) wr.heap.size 0 (u32s h) (u32s (zeros 8)) (u32s h) 159 rfl rfl rfl rfl rfl (heap_alloc_new _ _) (by rw [szState, u32s_length, HH.out]) ?c1 (u32s_one _) ?c2 ?_))
      case c1 => simp [u32s_length, zeros_length, HH.out]
      case c2 => simp [u32s_length, HH.out, zeros, u32s]
      intro W5 hw5 hgb hb5
      have HV5 := hid hw5
      have HR5 := hid ((hgb.block w.heap.size (by simp; have := HWL.out; omega) (by simp; have := HWL.out; omega)).trans ((heap_alloc_old _ _ HWL.out).trans HR1.out))
      have HB5 := hid (hb5 _ _ (hB.out.alloc hB.out.size _) hB.out.size)
      clear hw5 hgb hb5 HGr
      generalize wr.heap.size = gx at *
      clear HR1 hB
      go_wp2_with fail
      refine (shaConstants _).mono ?_
      rintro e W6 ⟨rfl, hb6⟩
      have HV6 := hid (grow_block HV5.out hb6)
      have HR6 := hid (grow_block HR5.out hb6)
      have HB6 := hid (Grow.trans HB5.out hb6)
      clear HV5 HR5 HB5 hb6
      go_wp2_with fail
      go_loopg [63] 65 (fun q i wr => ∃ n : Nat, n ≤ 64 ∧ q = 65 - n ∧ i = .int .i64 n ∧ Hid (wr.heap[w.heap.size]? = some (.cells (u32s (sched (bl s) 48)).toArray 175 (0, 0))) ∧
        Hid (wr.heap[gx]? = some (.cells (u32s (rnds h (sched (bl s) 48) n)).toArray 159 (0, 0))) ∧ Hid (Grow w wr))
      case atStart => exact ⟨0, by omega, rfl, rfl, HR6, HV6, HB6⟩
      case round =>
        obtain ⟨n, hn, hq, rfl, hR, hV, hB⟩ := hrel
        clear HV6 HR6 HB6
        by_cases hlt : n < 64
        · have hix : ∀ w, (Instr.index 175 (.agg (u32s shaK).toArray) (.int .i64 n)).run Try.prog w = .ok (.int .u32 (w32 (shaK.getD n 0))) w := fun w => run_index_arr 175 153 64 (u32s shaK) n _ _ rfl hlt (u32s_get shaK n (by simpa [shaK] using hlt)) w Try.underlying175 Try.underlying153 rfl szU32
          have HRN := hid (rnd_eq (rnds h (sched (bl s) 48) n) (shaK.getD n 0) ((sched (bl s) 48).getD n 0))
          have hl8 := rnds_length h (sched (bl s) 48) HH.out n
          have HCW := hid (fun w' (hw' : Grow wr w') => cell_u32 hR.out hw' n (by rw [sched_length]; omega))
          have cg := fun j (hj : j < 8) w' (hw' : Grow wr w') => cell_u32 hV.out hw' j (by rw [hl8]; exact hj)
          have HS8 := hid (rnds_succ h (sched (bl s) 48) n)
          generalize shaK.getD n 0 = kn at *
          generalize (sched (bl s) 48).getD n 0 = wn at *
          generalize hvs : rnds h (sched (bl s) 48) n = vs at *
          have q0 := cg 0 (by omega)
          have q1 := cg 1 (by omega)
          have q2 := cg 2 (by omega)
          have q3 := cg 3 (by omega)
          have q4 := cg 4 (by omega)
          have q5 := cg 5 (by omega)
          have q6 := cg 6 (by omega)
          have q7 := cg 7 (by omega)
          generalize vs.getD 0 0 = v0 at *
          generalize vs.getD 1 0 = v1 at *
          generalize vs.getD 2 0 = v2 at *
          generalize vs.getD 3 0 = v3 at *
          generalize vs.getD 4 0 = v4 at *
          generalize vs.getD 5 0 = v5 at *
          generalize vs.getD 6 0 = v6 at *
          generalize vs.getD 7 0 = v7 at *
          have Q0 := hid q0
          have Q1 := hid q1
          have Q2 := hid q2
          have Q3 := hid q3
          have Q4 := hid q4
          have Q5 := hid q5
          have Q6 := hid q6
          have Q7 := hid q7
          clear cg q0 q1 q2 q3 q4 q5 q6 q7 hvs
          have r0 := Q0.out
          have r4 := Q4.out
          go_wp2
          (refine' wp_region_head 6 0 [_, _, _, _, _, _] rfl (by kernel_rfl) (by kernel_rfl) ?hreg5; case' hreg5 => simp only [List.take_succ_cons, List.take_zero, List.zip_cons_cons, List.zip_nil_right, List.drop_succ_cons, List.drop_zero, List.drop_nil])
          (iterate 6 (refine' head_val ?_ ?_ ?_ ?_; rotate_left; (· rfl); (· first | exact fun _ _ _ => trivial | (intro t ht w; cases ht; simp [upE])); (· intro w' hw' _; go_simp; with_reducible rfl); simp only [Act.put, List.setIfInBounds_toArray, List.set_cons_zero, List.set_cons_succ]))
          refine head_nil ?_
          intro w7 hw7 _
          refine wpList_nil ?_
          clear hix r0 r4
          have GR7 := hid hw7
          have r5 := fun w' (hw' : Grow w7 w') => Q5.out w' (Grow.trans hw7 hw')
          have r6 := fun w' (hw' : Grow w7 w') => Q6.out w' (Grow.trans hw7 hw')
          have r7 := fun w' (hw' : Grow w7 w') => Q7.out w' (Grow.trans hw7 hw')
          have r8 := fun w' (hw' : Grow w7 w') => HCW.out w' (Grow.trans hw7 hw')
          have n0 : (0 : Int) ≤ (n : Int) := by omega
          have n1 : (n : Int) < 64 := by omega
          clear hw7
          go_wp2
          (refine' wp_region_head 25 0 [_, _, _, _, _, _, _, _, _, _, _, _, _, _, _, _, _, _, _, _, _, _, _, _, _] rfl (by kernel_rfl) (by kernel_rfl) ?hreg6; case' hreg6 => simp only [List.take_succ_cons, List.take_zero, List.zip_cons_cons, List.zip_nil_right, List.drop_succ_cons, List.drop_zero, List.drop_nil])
          (iterate 4 (refine' head_val ?_ ?_ ?_ ?_; rotate_left; (· rfl); (· first | exact fun _ _ _ => trivial | (intro t ht w; cases ht; simp [upE])); (· intro w' hw' _; go_simp; with_reducible rfl); simp only [Act.put, List.setIfInBounds_toArray, List.set_cons_zero, List.set_cons_succ]))
          (refine' head_call ?cw7 ?ce7 ?cr7 ?cc7 ?ch7; (case' cw7 => rfl); (case' ce7 => (first | exact fun _ _ _ => trivial | (intro t ht w; cases ht; simp [upE]))); (case' cr7 => (intro w'; go_simp; first | exact ⟨rfl, rfl⟩ | with_reducible rfl)); (case' cc7 => (intro w' hw' _; exact wordRight v4 25 (by omega) (by omega) (by decide +kernel) (by decide +kernel) w')); (case' ch7 => (try simp only [Act.put, List.setIfInBounds_toArray, List.set_cons_zero, List.set_cons_succ])))
          (refine' head_call ?cw8 ?ce8 ?cr8 ?cc8 ?ch8; (case' cw8 => rfl); (case' ce8 => (first | exact fun _ _ _ => trivial | (intro t ht w; cases ht; simp [upE]))); (case' cr8 => (intro w'; go_simp; first | exact ⟨rfl, rfl⟩ | with_reducible rfl)); (case' cc8 => (intro w' hw' _; exact shaThree v4 (rotr v4 25) 6 11 (by omega) (by omega) (by omega) (by omega) (by decide +kernel) (by decide +kernel) (by decide +kernel) (by decide +kernel) w')); (case' ch8 => (try simp only [Act.put, List.setIfInBounds_toArray, List.set_cons_zero, List.set_cons_succ])))
          (iterate 19 (refine' head_val ?_ ?_ ?_ ?_; rotate_left; (· rfl); (· first | exact fun _ _ _ => trivial | (intro t ht w; cases ht; simp [upE])); (· intro w' hw' _; go_simp; with_reducible rfl); simp only [Act.put, List.setIfInBounds_toArray, List.set_cons_zero, List.set_cons_succ]))
          refine head_nil ?_
          intro w8 hw8 _
          refine wpList_nil ?_
          clear r5 r6 r7 r8 n0 n1
          have GR8 := hid (Grow.trans GR7.out hw8)
          have r1 := fun w' (hw' : Grow w8 w') => Q1.out w' (Grow.trans GR8.out hw')
          have r2 := fun w' (hw' : Grow w8 w') => Q2.out w' (Grow.trans GR8.out hw')
          clear hw8
          generalize v7 + (rotr v4 6 ^^^ rotr v4 11 ^^^ rotr v4 25) + (v4 &&& v5 ^^^ ~~~v4 &&& v6) + kn + wn = X at *
          go_wp2
          (refine' wp_region_head 21 0 [_, _, _, _, _, _, _, _, _, _, _, _, _, _, _, _, _, _, _, _, _] rfl (by kernel_rfl) (by kernel_rfl) ?hreg9; case' hreg9 => simp only [List.take_succ_cons, List.take_zero, List.zip_cons_cons, List.zip_nil_right, List.drop_succ_cons, List.drop_zero, List.drop_nil])
          (iterate 2 (refine' head_val ?_ ?_ ?_ ?_; rotate_left; (· rfl); (· first | exact fun _ _ _ => trivial | (intro t ht w; cases ht; simp [upE])); (· intro w' hw' _; go_simp; with_reducible rfl); simp only [Act.put, List.setIfInBounds_toArray, List.set_cons_zero, List.set_cons_succ]))
          (refine' head_call ?cw10 ?ce10 ?cr10 ?cc10 ?ch10; (case' cw10 => rfl); (case' ce10 => (first | exact fun _ _ _ => trivial | (intro t ht w; cases ht; simp [upE]))); (case' cr10 => (intro w'; go_simp; first | exact ⟨rfl, rfl⟩ | with_reducible rfl)); (case' cc10 => (intro w' hw' _; exact wordRight v0 22 (by omega) (by omega) (by decide +kernel) (by decide +kernel) w')); (case' ch10 => (try simp only [Act.put, List.setIfInBounds_toArray, List.set_cons_zero, List.set_cons_succ])))
          (refine' head_call ?cw11 ?ce11 ?cr11 ?cc11 ?ch11; (case' cw11 => rfl); (case' ce11 => (first | exact fun _ _ _ => trivial | (intro t ht w; cases ht; simp [upE]))); (case' cr11 => (intro w'; go_simp; first | exact ⟨rfl, rfl⟩ | with_reducible rfl)); (case' cc11 => (intro w' hw' _; exact shaThree v0 (rotr v0 22) 2 13 (by omega) (by omega) (by omega) (by omega) (by decide +kernel) (by decide +kernel) (by decide +kernel) (by decide +kernel) w')); (case' ch11 => (try simp only [Act.put, List.setIfInBounds_toArray, List.set_cons_zero, List.set_cons_succ])))
          (iterate 17 (refine' head_val ?_ ?_ ?_ ?_; rotate_left; (· rfl); (· first | exact fun _ _ _ => trivial | (intro t ht w; cases ht; simp [upE])); (· intro w' hw' _; go_simp; with_reducible rfl); simp only [Act.put, List.setIfInBounds_toArray, List.set_cons_zero, List.set_cons_succ]))
          refine head_nil ?_
          intro w9 hw9 _
          refine wpList_nil ?_
          clear r1 r2
          have GR9 := hid (Grow.trans GR8.out hw9)
          clear hw9
          have r0 := Q0.out _ GR9.out
          have r1 := Q1.out _ GR9.out
          have r2 := Q2.out _ GR9.out
          have r3 := Q3.out _ GR9.out
          have r4 := Q4.out _ GR9.out
          have r5 := Q5.out _ GR9.out
          have r6 := Q6.out _ GR9.out
          generalize (rotr v0 2 ^^^ rotr v0 13 ^^^ rotr v0 22) + (v0 &&& v1 ^^^ v0 &&& v2 ^^^ v1 &&& v2) = Y at *
          have HVB := hid (grow_block hV.out GR9.out)
          have HBB := hid (Grow.trans hB.out GR9.out)
          have HRB := hid (grow_block hR.out GR9.out)
          go_wp2_with (refine store_block 159 (.tmp 10) (.tmp 134) gx 0 (u32s [X + Y, v0, v1, v2, v3 + X, v4, v5, v6]) (u32s vs) (u32s [X + Y, v0, v1, v2, v3 + X, v4, v5, v6]) 159 rfl rfl rfl rfl rfl HVB.out (by rw [szState]; rfl) ?c1 (u32s_one _) ?c2 ?_)
          case c1 => rw [u32s_length, u32s_length, hl8]; simp
          case c2 => rw [u32s_length, u32s_length, hl8]; simp
          intro W9 hw9 hg9 hb9
          rw [← HRN.out, ← HS8.out] at hw9
          have HV9 := hid hw9
          have HB9 := hid (hb9 _ _ HBB.out (Nat.le_of_lt HWL.out))
          have HR9 := hid ((hg9.block w.heap.size (by have := (Array.getElem?_eq_some_iff.1 HRB.out).1; exact this) (by simp; have := HWL.out; omega)).trans HRB.out)
          clear hw9 hg9 hb9 r0 r1 r2 r3 r4 r5 r6
          go_wp2
          go_roundg (65 - (n + 1))
          case rel => exact ⟨n + 1, by omega, rfl, by go_num, HR9, HV9, HB9⟩
          case measure => omega
        · obtain rfl : n = 64 := by omega
          have hgr := grow_block HG.out hB.out
          have HGL := hid hgr
          clear hgr hR
          go_wp2
          go_loopg [136] 9 (fun q i w1 => ∃ n : Nat, n ≤ 8 ∧ q = 9 - n ∧ i = .int .i64 n ∧ Hid (w1.heap[g]? = some (.cells (u32s (accTo h (rnds h (sched (bl s) 48) 64) n) ++ tl).toArray t (0, 0))) ∧
            Hid (w1.heap[gx]? = some (.cells (u32s (rnds h (sched (bl s) 48) 64)).toArray 159 (0, 0))) ∧ Hid (w.grownBy w1 (some g)))
          case atStart => exact ⟨0, by omega, rfl, rfl, by rw [accTo_zero _ _ HH.out]; exact HGL, hV, grownBy_grow hB.out _⟩
          case round =>
            clear HGL
            obtain ⟨n, hn, hq, rfl, hA, hX, hN⟩ := hrel
            by_cases hlt : n < 8
            · have q1 := fun w' (hw' : Grow wr w') => cell_head hA.out hw' n _ (u32s_get _ n (by rw [accTo_length]; exact hlt))
              have q2 := fun w' (hw' : Grow wr w') => cell_u32 hX.out hw' n (by rw [rnds_length _ _ HH.out]; exact hlt)
              have HAS := hid (accTo_set h (rnds h (sched (bl s) 48) 64) n hlt tl)
              rw [accTo_at _ _ n hlt] at q1
              generalize (rnds h (sched (bl s) 48) 64).getD n 0 = y at *
              generalize h.getD n 0 = x at *
              have n0 : (0 : Int) ≤ (n : Int) := by omega
              have n1 : (n : Int) < 8 := by omega
              go_wp2
              (refine' wp_region_head 11 1 [_, _, _, _, _, _, _, _, _, _, _] rfl (by kernel_rfl) (by kernel_rfl) ?hreg12; case' hreg12 => simp only [List.take_succ_cons, List.take_zero, List.zip_cons_cons, List.zip_nil_right, List.drop_succ_cons, List.drop_zero, List.drop_nil])
              (iterate 11 (refine' head_val ?_ ?_ ?_ ?_; rotate_left; (· rfl); (· first | exact fun _ _ _ => trivial | (intro t ht w; cases ht; simp [upE])); (· intro w' hw' _; go_simp; with_reducible rfl); simp only [Act.put, List.setIfInBounds_toArray, List.set_cons_zero, List.set_cons_succ]))
              refine head_nil ?_
              intro w2 hw2 _
              have c4 : w2.cell? ⟨g, n, none⟩ = some (.int .u32 (w32 x)) := q1 w2 hw2
              have f4 : w2.frozen? ⟨g, n, none⟩ = false := frozen_of_row w2 _ n _ _ (grow_block hA.out hw2)
              have HA2 := hid (grow_block hA.out hw2)
              have HX2 := hid (grow_block hX.out hw2)
              have HN2 := hid (grownBy_trans hN.out (grownBy_grow hw2 _))
              clear q1 q2 hw2
              go_wp2
              go_roundg (9 - (n + 1))
              case rel =>
                refine ⟨n + 1, by omega, rfl, by go_num, ?_, ?_, hid (grownBy_trans HN2.out (grownBy_setCell _ _ _ _))⟩
                · have h2 := heap_setCell_same w2 g n _ t (.int .u32 (w32 (x + y))) HA2.out
                  rw [HAS.out] at h2
                  exact h2
                · have := HLT.out
                  have := HWL.out
                  exact hid ((heap_setCell_other _ _ _ _ (by simp; omega)).trans HX2.out)
              case measure => omega
            · obtain rfl : n = 8 := by omega
              go_wp2
              go_end0
              refine ⟨rfl, ?_, hN.out⟩
              have := hA.out
              rw [accTo_full] at this
              exact this
end Go.Proofs.Ytkibibgbmkejjaa
