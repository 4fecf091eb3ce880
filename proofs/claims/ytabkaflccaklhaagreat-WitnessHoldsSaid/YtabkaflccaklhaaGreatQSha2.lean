/- Joined: QShaE QShaF QShaG QShaH. -/
import Derived.Test.YtabkaflccaklhaaGreatQSha1
import Derived.Laws.CopyOwn
import Derived.Test.YtabkaflccaklhaaGreatQShelf
set_option linter.unusedSimpArgs false
set_option linter.unusedVariables false
section
namespace Go.Proofs.YtabkaflccaklhaaGreat
open Go.RowKit
open Go.Qk hiding rotr b4
attribute [local go_sem ↓ high] add_w32 and_w32 or_w32 xor_w32 shr_w32 shl_w32 shr3_w32 shr10_w32 shr8_w32 shr16_w32 shr24_w32 shl8_w32
attribute [local go_sem high] not_w32 max_xor_w32

set_option maxHeartbeats 3000000
set_option maxRecDepth 100000
/-- The row of 64 words, so many of them known. -/
def wRow (b : List UInt8) (n : Nat) : List UInt32 := sched b n ++ zeros (48 - n)
theorem wRow_length (b : List UInt8) (n : Nat) (h : n ≤ 48) : (wRow b n).length = 64 := by simp [wRow, sched_length, zeros_length]; omega
theorem wRow_get (b : List UInt8) (n j : Nat) (h : j < 16 + n) : (wRow b n).getD j 0 = (sched b n).getD j 0 := by
  simp [wRow, List.getElem?_append_left (show j < (sched b n).length by rw [sched_length]; exact h)]
theorem wRow_set (b : List UInt8) (n : Nat) (h : n < 48) : (u32s (wRow b n)).toArray.setIfInBounds (16 + n) (.int .u32 (w32 (ext (sched b n) (16 + n)))) = (u32s (wRow b (n + 1))).toArray := by
  have h1 : wRow b n = sched b n ++ 0 :: zeros (48 - (n + 1)) := by
    rw [wRow, show 48 - n = (48 - (n + 1)) + 1 from by omega]
    rfl
  have h2 : wRow b (n + 1) = sched b n ++ ext (sched b n) (16 + n) :: zeros (48 - (n + 1)) := by simp [wRow, sched]
  rw [h1, h2]
  have hl := sched_length b n
  simp [u32s, ← hl, List.setIfInBounds_toArray]
theorem wRow_start (b : List UInt8) : (u32s (zeros 64)).take 0 ++ (u32s (wordsOf b 16) ++ (u32s (zeros 64)).drop (0 + (u32s (wordsOf b 16)).length)) = u32s (wRow b 0) := by
  have hl : (u32s (wordsOf b 16)).length = 16 := by rw [u32s_length, wordsOf_length]
  rw [hl, wRow, u32s_append]
  rfl
theorem wRow_full (b : List UInt8) : wRow b 48 = sched b 48 := by simp [wRow, zeros]

theorem szU32 : (Tryz.prog.info? 199).map (·.size) = some 1 := by kernel_rfl
theorem shaAddC (g : Nat) (t : TypeId) (h : List UInt32) (tl : List Value) (s : ByteArray) (hh : h.length = 8) (hs : s.size = 64) (w : World) (hg : w.heap[g]? = some (.cells (u32s h ++ tl).toArray t (0, 0))) :
    Calls Tryz.prog 150 #[.pointer (some ⟨g, 0, none⟩), .string s] w fun e w' => e = .returned (.tuple #[]) ∧
      w'.heap[g]? = some (.cells (u32s (shaAdd h (bl s)) ++ tl).toArray t (0, 0)) ∧ w.grownBy w' (some g) := by
  have HG := hid hg
  have HH := hid hh
  have HS := hid hs
  have hlt : g < w.heap.size := (Array.getElem?_eq_some_iff.1 hg).1
  have HLT := hid hlt
  clear hg hh hs hlt
  go_enter Tryz.func150, Tryz.ntmps150
  apply wp_seq_k; intro _ _; apply wp_region_lit
  refine wpList_val (v := .pointer (some ⟨w.heap.size, 0, none⟩)) (w' := w.alloc (.cells (u32s (zeros 64)).toArray 213)) rfl (by kernel_rfl) ?_
  have hg0 : (w.alloc (.cells (u32s (zeros 64)).toArray 213)).heap[w.heap.size]? = some (.cells (u32s (zeros 64)).toArray 213 (0, 0)) := heap_alloc_new _ _
  have hb0 : Grow w (w.alloc (.cells (u32s (zeros 64)).toArray 213)) := grow_alloc _ _
  generalize w.alloc (.cells (u32s (zeros 64)).toArray 213) = W at *
  have HW := hid hg0
  have HB := hid hb0
  clear hg0 hb0
  simp only [Act.put, List.setIfInBounds_toArray, List.set_cons_zero, List.set_cons_succ]
  refine wpList_nil ?_
  go_wp2_with fail
  refine (wordWords s 16 HS.out (by omega) _).mono ?_
  rintro e W1 ⟨v, rfl, hown, hb⟩
  obtain ⟨gv, cap, rfl, _, _⟩ := own_form hown (by omega)
  have hcell := fun j u hj => World.ownsRow.cells hown (g := gv) rfl j u hj
  have HC := hid hcell
  have HW1 := hid (grow_block HW.out hb)
  have HB1 := hid (HB.out.trans hb)
  clear hown hcell hb
  go_wp2_with (refine copy_block (.tmp 23) (.tmp 24) 172 172 199 w.heap.size 0 64 64 ⟨gv, 0, none⟩ 16 cap (u32s (wordsOf (bl s) 16)) (u32s (zeros 64)) 213 (u32s (wRow (bl s) 0)) rfl rfl Tryz.underlying172 szU32 rfl rfl HW1.out ?c1 HC.out ?c3 (u32s_one _) (wRow_start _) ?_)
  case c1 => rw [u32s_length, wordsOf_length]; rfl
  case c3 => rw [u32s_length, wordsOf_length]; simp [u32s_length, zeros_length]
  intro W2 hw2 _ hb2
  have HW2 := hid hw2
  have HB2 := hid (hb2 _ _ HB1.out (Nat.le_refl _))
  clear hw2 hb2
  clear HC HW1 HB1 HW HB
  go_wp2
  go_loopg [7] 49 (fun q i wr => ∃ n : Nat, 16 ≤ n ∧ n ≤ 64 ∧ q = 65 - n ∧ i = .int .i64 n ∧ Hid (wr.heap[w.heap.size]? = some (.cells (u32s (wRow (bl s) (n - 16))).toArray 213 (0, 0))) ∧ Hid (Grow w wr))
  case atStart => exact ⟨16, by omega, by omega, rfl, rfl, HW2, HB2⟩
  case round =>
    obtain ⟨n, hn0, hn, hq, rfl, hR, hB⟩ := hrel
    clear HW2 HB2
    by_cases hlt : n < 64
    · have hl64 := wRow_length (bl s) (n - 16) (by omega)
      have cg : ∀ j, j < n → ∀ w', Grow wr w' → w'.cell? ⟨w.heap.size, j, none⟩ = some (.int .u32 (w32 ((sched (bl s) (n - 16)).getD j 0))) := fun j hj w' hw' => by rw [cell_u32 hR.out hw' _ (by omega), wRow_get _ _ _ (by omega)]
      have CG := hid cg
      clear cg
      have i1 : (n : Int) - 15 = ((n - 15 : Nat) : Int) := by omega
      have i2 : (n : Int) - 2 = ((n - 2 : Nat) : Int) := by omega
      have j1 : ((n - 15 : Nat) : Int) < 64 := by omega
      have j2 : ((n - 2 : Nat) : Int) < 64 := by omega
      have e1 : IntKind.i64.wrap ((n - 15 : Nat) : Int) = ((n - 15 : Nat) : Int) := by simp [IntKind.wrap, IntKind.signed, IntKind.bits]; omega
      have e2 : IntKind.i64.wrap ((n - 2 : Nat) : Int) = ((n - 2 : Nat) : Int) := by simp [IntKind.wrap, IntKind.signed, IntKind.bits]; omega
      have c1 := CG.out (n - 15) (by omega)
      have c2 := CG.out (n - 2) (by omega)
      have HX := hid (ext_eq (sched (bl s) (n - 16)) n)
      generalize (sched (bl s) (n - 16)).getD (n - 15) 0 = x at *
      generalize (sched (bl s) (n - 16)).getD (n - 2) 0 = y at *
      go_wp2
      (refine' wp_region_head 10 0 [_, _, _, _, _, _, _, _, _, _] rfl (by kernel_rfl) (by kernel_rfl) ?hreg1; case' hreg1 => simp only [List.take_succ_cons, List.take_zero, List.zip_cons_cons, List.zip_nil_right, List.drop_succ_cons, List.drop_zero, List.drop_nil])
      (iterate 10 (refine' head_val ?_ ?_ ?_ ?_; rotate_left; (· rfl); (· first | exact fun _ _ _ => trivial | (intro t ht w; cases ht; simp [upE])); (· intro w' hw' _; go_simp; with_reducible rfl); simp only [Act.put, List.setIfInBounds_toArray, List.set_cons_zero, List.set_cons_succ]))
      refine head_nil ?_
      intro w3 hw3 _
      refine wpList_nil ?_
      clear c1 c2 i1 i2 j1 j2 e1 e2
      have c1 := fun w' (hw' : Grow w3 w') => CG.out (n - 16) (by omega) w' (Grow.trans hw3 hw')
      have c2 := fun w' (hw' : Grow w3 w') => CG.out (n - 7) (by omega) w' (Grow.trans hw3 hw')
      have HB3 := hid (Grow.trans hB.out hw3)
      have HR3 := hid (grow_block hR.out hw3)
      clear hw3
      generalize (sched (bl s) (n - 16)).getD (n - 16) 0 = x0 at *
      generalize (sched (bl s) (n - 16)).getD (n - 7) 0 = y0 at *
      have i1 : (n : Int) - 16 = ((n - 16 : Nat) : Int) := by omega
      have i2 : (n : Int) - 7 = ((n - 7 : Nat) : Int) := by omega
      have j1 : ((n - 16 : Nat) : Int) < 64 := by omega
      have j2 : ((n - 7 : Nat) : Int) < 64 := by omega
      have j3 : (n : Int) < 64 := by omega
      have e1 : IntKind.i64.wrap ((n - 16 : Nat) : Int) = ((n - 16 : Nat) : Int) := by simp [IntKind.wrap, IntKind.signed, IntKind.bits]; omega
      have e2 : IntKind.i64.wrap ((n - 7 : Nat) : Int) = ((n - 7 : Nat) : Int) := by simp [IntKind.wrap, IntKind.signed, IntKind.bits]; omega
      go_wp2
      (refine' wp_region_head 21 1 [_, _, _, _, _, _, _, _, _, _, _, _, _, _, _, _, _, _, _, _, _] rfl (by kernel_rfl) (by kernel_rfl) ?hreg2; case' hreg2 => simp only [List.take_succ_cons, List.take_zero, List.zip_cons_cons, List.zip_nil_right, List.drop_succ_cons, List.drop_zero, List.drop_nil])
      (iterate 8 (refine' head_val ?_ ?_ ?_ ?_; rotate_left; (· rfl); (· first | exact fun _ _ _ => trivial | (intro t ht w; cases ht; simp [upE])); (· intro w' hw' _; go_simp; with_reducible rfl); simp only [Act.put, List.setIfInBounds_toArray, List.set_cons_zero, List.set_cons_succ]))
      (refine' head_call ?cw3 ?ce3 ?cr3 ?cc3 ?ch3; (case' cw3 => rfl); (case' ce3 => (first | exact fun _ _ _ => trivial | (intro t ht w; cases ht; simp [upE]))); (case' cr3 => (intro w'; go_simp; first | exact ⟨rfl, rfl⟩ | with_reducible rfl)); (case' cc3 => (intro w' hw' _; exact shaThree x (x >>> 3) 7 18 (by omega) (by omega) (by omega) (by omega) (by decide +kernel) (by decide +kernel) (by decide +kernel) (by decide +kernel) w')); (case' ch3 => (try simp only [Act.put, List.setIfInBounds_toArray, List.set_cons_zero, List.set_cons_succ])))
      (iterate 9 (refine' head_val ?_ ?_ ?_ ?_; rotate_left; (· rfl); (· first | exact fun _ _ _ => trivial | (intro t ht w; cases ht; simp [upE])); (· intro w' hw' _; go_simp; with_reducible rfl); simp only [Act.put, List.setIfInBounds_toArray, List.set_cons_zero, List.set_cons_succ]))
      (refine' head_call ?cw4 ?ce4 ?cr4 ?cc4 ?ch4; (case' cw4 => rfl); (case' ce4 => (first | exact fun _ _ _ => trivial | (intro t ht w; cases ht; simp [upE]))); (case' cr4 => (intro w'; go_simp; first | exact ⟨rfl, rfl⟩ | with_reducible rfl)); (case' cc4 => (intro w' hw' _; exact shaThree y (y >>> 10) 17 19 (by omega) (by omega) (by omega) (by omega) (by decide +kernel) (by decide +kernel) (by decide +kernel) (by decide +kernel) w')); (case' ch4 => (try simp only [Act.put, List.setIfInBounds_toArray, List.set_cons_zero, List.set_cons_succ])))
      (iterate 2 (refine' head_val ?_ ?_ ?_ ?_; rotate_left; (· rfl); (· first | exact fun _ _ _ => trivial | (intro t ht w; cases ht; simp [upE])); (· intro w' hw' _; go_simp; with_reducible rfl); simp only [Act.put, List.setIfInBounds_toArray, List.set_cons_zero, List.set_cons_succ]))
      refine head_nil ?_
      intro w4 hw4 _
      have c4 : w4.cell? ⟨w.heap.size, n, none⟩ = some (.int .u32 (w32 ((wRow (bl s) (n - 16)).getD n 0))) := cell_u32 HR3.out hw4 n (by omega)
      have f4 : w4.frozen? ⟨w.heap.size, n, none⟩ = false := frozen_of_row w4 _ n _ _ (grow_block HR3.out hw4)
      have HB4 := hid (Grow.trans HB3.out hw4)
      have HR4 := hid (grow_block HR3.out hw4)
      clear c1 c2 i1 i2 j1 j2 e1 e2 hw4
      go_wp2
      go_roundg (65 - (n + 1))
      case rel =>
        refine ⟨n + 1, by omega, by omega, rfl, by go_num, ?_, hid (HB4.out.setCell (Nat.le_refl _) _)⟩
        have h2 := heap_setCell_same w4 w.heap.size n (u32s (wRow (bl s) (n - 16))).toArray 213 (.int .u32 (w32 (ext (sched (bl s) (n - 16)) n))) HR4.out
        have h3 := wRow_set (bl s) (n - 16) (by omega)
        rw [show 16 + (n - 16) = n from by omega] at h3
        rw [h3, ← HX.out] at h2
        rw [show n + 1 - 16 = n - 16 + 1 from by omega]
        exact h2
      case measure => omega
    · obtain rfl : n = 64 := by omega
      have hRR := hR.out
      rw [show 64 - 16 = 48 from rfl, wRow_full] at hRR
      have HR1 := hid hRR
      clear hRR hR
      have HGr := hid (grow_block HG.out hB.out)
      have hwlt : w.heap.size < wr.heap.size := (Array.getElem?_eq_some_iff.1 HR1.out).1
      have HWL := hid hwlt
      clear hwlt
      go_wp2_with (first | (refine wpList_load_agg rfl 204 (.tmp 60) rfl ⟨g, 0, none⟩ rfl (u32s h) _ (cells_block HGr.out) Tryz.underlying204 rfl (by rw [szState, u32s_length, HH.out]) ?_) | (refine store_block 204 (.tmp 10) (.tmp 61) wr.heap.size 0 (u32s h) (u32s (zeros 8)) (u32s h) 204 rfl rfl rfl rfl rfl (heap_alloc_new _ _) (by rw [szState, u32s_length, HH.out]) ?c1 (u32s_one _) ?c2 ?_))
      case c1 => simp [u32s_length, zeros_length, HH.out]
      case c2 => simp [u32s_length, HH.out, zeros, u32s]
      intro W5 hw5 hgb hb5
      have HV5 := hid hw5
      have HR5 := hid ((hgb.block w.heap.size (by simp; have := HWL.out; omega) (by simp; have := HWL.out; omega)).trans ((heap_alloc_old _ _ HWL.out).trans HR1.out))
      have HB5 := hid (hb5 _ _ (hB.out.alloc hB.out.size _) hB.out.size)
      clear hw5 hgb hb5 HGr
      generalize wr.heap.size = gx at *
      clear HR1 hB
      go_wp2_with fail
      refine (shaConstants _).mono ?_
      rintro e W6 ⟨rfl, hb6⟩
      have HV6 := hid (grow_block HV5.out hb6)
      have HR6 := hid (grow_block HR5.out hb6)
      have HB6 := hid (Grow.trans HB5.out hb6)
      clear HV5 HR5 HB5 hb6
      go_wp2_with fail
      go_loopg [63] 65 (fun q i wr => ∃ n : Nat, n ≤ 64 ∧ q = 65 - n ∧ i = .int .i64 n ∧ Hid (wr.heap[w.heap.size]? = some (.cells (u32s (sched (bl s) 48)).toArray 213 (0, 0))) ∧
        Hid (wr.heap[gx]? = some (.cells (u32s (rnds h (sched (bl s) 48) n)).toArray 204 (0, 0))) ∧ Hid (Grow w wr))
      case atStart => exact ⟨0, by omega, rfl, rfl, HR6, HV6, HB6⟩
      case round =>
        obtain ⟨n, hn, hq, rfl, hR, hV, hB⟩ := hrel
        clear HV6 HR6 HB6
        by_cases hlt : n < 64
        · have hix : ∀ w, (Instr.index 213 (.agg (u32s shaK).toArray) (.int .i64 n)).run Tryz.prog w = .ok (.int .u32 (w32 (shaK.getD n 0))) w := fun w => run_index_arr 213 199 64 (u32s shaK) n _ _ rfl hlt (u32s_get shaK n (by simpa [shaK] using hlt)) w Tryz.underlying213 Tryz.underlying199 rfl szU32
          have HRN := hid (rnd_eq (rnds h (sched (bl s) 48) n) (shaK.getD n 0) ((sched (bl s) 48).getD n 0))
          have hl8 := rnds_length h (sched (bl s) 48) HH.out n
          have HCW := hid (fun w' (hw' : Grow wr w') => cell_u32 hR.out hw' n (by rw [sched_length]; omega))
          have cg := fun j (hj : j < 8) w' (hw' : Grow wr w') => cell_u32 hV.out hw' j (by rw [hl8]; exact hj)
          have HS8 := hid (rnds_succ h (sched (bl s) 48) n)
          generalize shaK.getD n 0 = kn at *
          generalize (sched (bl s) 48).getD n 0 = wn at *
          generalize hvs : rnds h (sched (bl s) 48) n = vs at *
          have q0 := cg 0 (by omega)
          have q1 := cg 1 (by omega)
          have q2 := cg 2 (by omega)
          have q3 := cg 3 (by omega)
          have q4 := cg 4 (by omega)
          have q5 := cg 5 (by omega)
          have q6 := cg 6 (by omega)
          have q7 := cg 7 (by omega)
          generalize vs.getD 0 0 = v0 at *
          generalize vs.getD 1 0 = v1 at *
          generalize vs.getD 2 0 = v2 at *
          generalize vs.getD 3 0 = v3 at *
          generalize vs.getD 4 0 = v4 at *
          generalize vs.getD 5 0 = v5 at *
          generalize vs.getD 6 0 = v6 at *
          generalize vs.getD 7 0 = v7 at *
          have Q0 := hid q0
          have Q1 := hid q1
          have Q2 := hid q2
          have Q3 := hid q3
          have Q4 := hid q4
          have Q5 := hid q5
          have Q6 := hid q6
          have Q7 := hid q7
          clear cg q0 q1 q2 q3 q4 q5 q6 q7 hvs
          have r0 := Q0.out
          have r4 := Q4.out
          go_wp2
          (refine' wp_region_head 6 0 [_, _, _, _, _, _] rfl (by kernel_rfl) (by kernel_rfl) ?hreg5; case' hreg5 => simp only [List.take_succ_cons, List.take_zero, List.zip_cons_cons, List.zip_nil_right, List.drop_succ_cons, List.drop_zero, List.drop_nil])
          (iterate 6 (refine' head_val ?_ ?_ ?_ ?_; rotate_left; (· rfl); (· first | exact fun _ _ _ => trivial | (intro t ht w; cases ht; simp [upE])); (· intro w' hw' _; go_simp; with_reducible rfl); simp only [Act.put, List.setIfInBounds_toArray, List.set_cons_zero, List.set_cons_succ]))
          refine head_nil ?_
          intro w7 hw7 _
          refine wpList_nil ?_
          clear hix r0 r4
          have GR7 := hid hw7
          have r5 := fun w' (hw' : Grow w7 w') => Q5.out w' (Grow.trans hw7 hw')
          have r6 := fun w' (hw' : Grow w7 w') => Q6.out w' (Grow.trans hw7 hw')
          have r7 := fun w' (hw' : Grow w7 w') => Q7.out w' (Grow.trans hw7 hw')
          have r8 := fun w' (hw' : Grow w7 w') => HCW.out w' (Grow.trans hw7 hw')
          have n0 : (0 : Int) ≤ (n : Int) := by omega
          have n1 : (n : Int) < 64 := by omega
          clear hw7
          go_wp2
          (refine' wp_region_head 25 0 [_, _, _, _, _, _, _, _, _, _, _, _, _, _, _, _, _, _, _, _, _, _, _, _, _] rfl (by kernel_rfl) (by kernel_rfl) ?hreg6; case' hreg6 => simp only [List.take_succ_cons, List.take_zero, List.zip_cons_cons, List.zip_nil_right, List.drop_succ_cons, List.drop_zero, List.drop_nil])
          (iterate 4 (refine' head_val ?_ ?_ ?_ ?_; rotate_left; (· rfl); (· first | exact fun _ _ _ => trivial | (intro t ht w; cases ht; simp [upE])); (· intro w' hw' _; go_simp; with_reducible rfl); simp only [Act.put, List.setIfInBounds_toArray, List.set_cons_zero, List.set_cons_succ]))
          (refine' head_call ?cw7 ?ce7 ?cr7 ?cc7 ?ch7; (case' cw7 => rfl); (case' ce7 => (first | exact fun _ _ _ => trivial | (intro t ht w; cases ht; simp [upE]))); (case' cr7 => (intro w'; go_simp; first | exact ⟨rfl, rfl⟩ | with_reducible rfl)); (case' cc7 => (intro w' hw' _; exact wordRight v4 25 (by omega) (by omega) (by decide +kernel) (by decide +kernel) w')); (case' ch7 => (try simp only [Act.put, List.setIfInBounds_toArray, List.set_cons_zero, List.set_cons_succ])))
          (refine' head_call ?cw8 ?ce8 ?cr8 ?cc8 ?ch8; (case' cw8 => rfl); (case' ce8 => (first | exact fun _ _ _ => trivial | (intro t ht w; cases ht; simp [upE]))); (case' cr8 => (intro w'; go_simp; first | exact ⟨rfl, rfl⟩ | with_reducible rfl)); (case' cc8 => (intro w' hw' _; exact shaThree v4 (rotr v4 25) 6 11 (by omega) (by omega) (by omega) (by omega) (by decide +kernel) (by decide +kernel) (by decide +kernel) (by decide +kernel) w')); (case' ch8 => (try simp only [Act.put, List.setIfInBounds_toArray, List.set_cons_zero, List.set_cons_succ])))
          (iterate 19 (refine' head_val ?_ ?_ ?_ ?_; rotate_left; (· rfl); (· first | exact fun _ _ _ => trivial | (intro t ht w; cases ht; simp [upE])); (· intro w' hw' _; go_simp; with_reducible rfl); simp only [Act.put, List.setIfInBounds_toArray, List.set_cons_zero, List.set_cons_succ]))
          refine head_nil ?_
          intro w8 hw8 _
          refine wpList_nil ?_
          clear r5 r6 r7 r8 n0 n1
          have GR8 := hid (Grow.trans GR7.out hw8)
          have r1 := fun w' (hw' : Grow w8 w') => Q1.out w' (Grow.trans GR8.out hw')
          have r2 := fun w' (hw' : Grow w8 w') => Q2.out w' (Grow.trans GR8.out hw')
          clear hw8
          generalize v7 + (rotr v4 6 ^^^ rotr v4 11 ^^^ rotr v4 25) + (v4 &&& v5 ^^^ ~~~v4 &&& v6) + kn + wn = X at *
          go_wp2
          (refine' wp_region_head 21 0 [_, _, _, _, _, _, _, _, _, _, _, _, _, _, _, _, _, _, _, _, _] rfl (by kernel_rfl) (by kernel_rfl) ?hreg9; case' hreg9 => simp only [List.take_succ_cons, List.take_zero, List.zip_cons_cons, List.zip_nil_right, List.drop_succ_cons, List.drop_zero, List.drop_nil])
          (iterate 2 (refine' head_val ?_ ?_ ?_ ?_; rotate_left; (· rfl); (· first | exact fun _ _ _ => trivial | (intro t ht w; cases ht; simp [upE])); (· intro w' hw' _; go_simp; with_reducible rfl); simp only [Act.put, List.setIfInBounds_toArray, List.set_cons_zero, List.set_cons_succ]))
          (refine' head_call ?cw10 ?ce10 ?cr10 ?cc10 ?ch10; (case' cw10 => rfl); (case' ce10 => (first | exact fun _ _ _ => trivial | (intro t ht w; cases ht; simp [upE]))); (case' cr10 => (intro w'; go_simp; first | exact ⟨rfl, rfl⟩ | with_reducible rfl)); (case' cc10 => (intro w' hw' _; exact wordRight v0 22 (by omega) (by omega) (by decide +kernel) (by decide +kernel) w')); (case' ch10 => (try simp only [Act.put, List.setIfInBounds_toArray, List.set_cons_zero, List.set_cons_succ])))
          (refine' head_call ?cw11 ?ce11 ?cr11 ?cc11 ?ch11; (case' cw11 => rfl); (case' ce11 => (first | exact fun _ _ _ => trivial | (intro t ht w; cases ht; simp [upE]))); (case' cr11 => (intro w'; go_simp; first | exact ⟨rfl, rfl⟩ | with_reducible rfl)); (case' cc11 => (intro w' hw' _; exact shaThree v0 (rotr v0 22) 2 13 (by omega) (by omega) (by omega) (by omega) (by decide +kernel) (by decide +kernel) (by decide +kernel) (by decide +kernel) w')); (case' ch11 => (try simp only [Act.put, List.setIfInBounds_toArray, List.set_cons_zero, List.set_cons_succ])))
          (iterate 17 (refine' head_val ?_ ?_ ?_ ?_; rotate_left; (· rfl); (· first | exact fun _ _ _ => trivial | (intro t ht w; cases ht; simp [upE])); (· intro w' hw' _; go_simp; with_reducible rfl); simp only [Act.put, List.setIfInBounds_toArray, List.set_cons_zero, List.set_cons_succ]))
          refine head_nil ?_
          intro w9 hw9 _
          refine wpList_nil ?_
          clear r1 r2
          have GR9 := hid (Grow.trans GR8.out hw9)
          clear hw9
          have r0 := Q0.out _ GR9.out
          have r1 := Q1.out _ GR9.out
          have r2 := Q2.out _ GR9.out
          have r3 := Q3.out _ GR9.out
          have r4 := Q4.out _ GR9.out
          have r5 := Q5.out _ GR9.out
          have r6 := Q6.out _ GR9.out
          generalize (rotr v0 2 ^^^ rotr v0 13 ^^^ rotr v0 22) + (v0 &&& v1 ^^^ v0 &&& v2 ^^^ v1 &&& v2) = Y at *
          have HVB := hid (grow_block hV.out GR9.out)
          have HBB := hid (Grow.trans hB.out GR9.out)
          have HRB := hid (grow_block hR.out GR9.out)
          go_wp2_with (refine store_block 204 (.tmp 10) (.tmp 134) gx 0 (u32s [X + Y, v0, v1, v2, v3 + X, v4, v5, v6]) (u32s vs) (u32s [X + Y, v0, v1, v2, v3 + X, v4, v5, v6]) 204 rfl rfl rfl rfl rfl HVB.out (by rw [szState]; rfl) ?c1 (u32s_one _) ?c2 ?_)
          case c1 => rw [u32s_length, u32s_length, hl8]; simp
          case c2 => rw [u32s_length, u32s_length, hl8]; simp
          intro W9 hw9 hg9 hb9
          rw [← HRN.out, ← HS8.out] at hw9
          have HV9 := hid hw9
          have HB9 := hid (hb9 _ _ HBB.out (Nat.le_of_lt HWL.out))
          have HR9 := hid ((hg9.block w.heap.size (by have := (Array.getElem?_eq_some_iff.1 HRB.out).1; exact this) (by simp; have := HWL.out; omega)).trans HRB.out)
          clear hw9 hg9 hb9 r0 r1 r2 r3 r4 r5 r6
          go_wp2
          go_roundg (65 - (n + 1))
          case rel => exact ⟨n + 1, by omega, rfl, by go_num, HR9, HV9, HB9⟩
          case measure => omega
        · obtain rfl : n = 64 := by omega
          have hgr := grow_block HG.out hB.out
          have HGL := hid hgr
          clear hgr hR
          go_wp2
          go_loopg [136] 9 (fun q i w1 => ∃ n : Nat, n ≤ 8 ∧ q = 9 - n ∧ i = .int .i64 n ∧ Hid (w1.heap[g]? = some (.cells (u32s (accTo h (rnds h (sched (bl s) 48) 64) n) ++ tl).toArray t (0, 0))) ∧
            Hid (w1.heap[gx]? = some (.cells (u32s (rnds h (sched (bl s) 48) 64)).toArray 204 (0, 0))) ∧ Hid (w.grownBy w1 (some g)))
          case atStart => exact ⟨0, by omega, rfl, rfl, by rw [accTo_zero _ _ HH.out]; exact HGL, hV, grownBy_grow hB.out _⟩
          case round =>
            clear HGL
            obtain ⟨n, hn, hq, rfl, hA, hX, hN⟩ := hrel
            by_cases hlt : n < 8
            · have q1 := fun w' (hw' : Grow wr w') => cell_head hA.out hw' n _ (u32s_get _ n (by rw [accTo_length]; exact hlt))
              have q2 := fun w' (hw' : Grow wr w') => cell_u32 hX.out hw' n (by rw [rnds_length _ _ HH.out]; exact hlt)
              have HAS := hid (accTo_set h (rnds h (sched (bl s) 48) 64) n hlt tl)
              rw [accTo_at _ _ n hlt] at q1
              generalize (rnds h (sched (bl s) 48) 64).getD n 0 = y at *
              generalize h.getD n 0 = x at *
              have n0 : (0 : Int) ≤ (n : Int) := by omega
              have n1 : (n : Int) < 8 := by omega
              go_wp2
              (refine' wp_region_head 11 1 [_, _, _, _, _, _, _, _, _, _, _] rfl (by kernel_rfl) (by kernel_rfl) ?hreg12; case' hreg12 => simp only [List.take_succ_cons, List.take_zero, List.zip_cons_cons, List.zip_nil_right, List.drop_succ_cons, List.drop_zero, List.drop_nil])
              (iterate 11 (refine' head_val ?_ ?_ ?_ ?_; rotate_left; (· rfl); (· first | exact fun _ _ _ => trivial | (intro t ht w; cases ht; simp [upE])); (· intro w' hw' _; go_simp; with_reducible rfl); simp only [Act.put, List.setIfInBounds_toArray, List.set_cons_zero, List.set_cons_succ]))
              refine head_nil ?_
              intro w2 hw2 _
              have c4 : w2.cell? ⟨g, n, none⟩ = some (.int .u32 (w32 x)) := q1 w2 hw2
              have f4 : w2.frozen? ⟨g, n, none⟩ = false := frozen_of_row w2 _ n _ _ (grow_block hA.out hw2)
              have HA2 := hid (grow_block hA.out hw2)
              have HX2 := hid (grow_block hX.out hw2)
              have HN2 := hid (grownBy_trans hN.out (grownBy_grow hw2 _))
              clear q1 q2 hw2
              go_wp2
              go_roundg (9 - (n + 1))
              case rel =>
                refine ⟨n + 1, by omega, rfl, by go_num, ?_, ?_, hid (grownBy_trans HN2.out (grownBy_setCell _ _ _ _))⟩
                · have h2 := heap_setCell_same w2 g n _ t (.int .u32 (w32 (x + y))) HA2.out
                  rw [HAS.out] at h2
                  exact h2
                · have := HLT.out
                  have := HWL.out
                  exact hid ((heap_setCell_other _ _ _ _ (by simp; omega)).trans HX2.out)
              case measure => omega
            · obtain rfl : n = 8 := by omega
              go_wp2
              go_end0
              refine ⟨rfl, ?_, hN.out⟩
              have := hA.out
              rw [accTo_full] at this
              exact this
end Go.Proofs.YtabkaflccaklhaaGreat
end
section
namespace Go.Proofs.YtabkaflccaklhaaGreat
open Go.RowKit
open Go.Qk hiding rotr b4

set_option maxHeartbeats 1000000
set_option maxRecDepth 100000
/-- A hash in memory. -/
def hashCells (h : List UInt32) (rest : ByteArray) (n : Int) : Array Value := (u32s h ++ [Value.string rest, Value.int .i64 n]).toArray
def IsHash (w : World) (g : Nat) (h : List UInt32) (rest : ByteArray) (n : Int) : Prop := w.heap[g]? = some (.cells (hashCells h rest n) 207 (0, 0))

theorem shaNew (w : World) :
    Calls Tryz.prog 124 #[] w fun e w' => ∃ g, e = .returned (.pointer (some ⟨g, 0, none⟩)) ∧ w.heap.size ≤ g ∧ IsHash w' g shaH (bs []) 0 ∧ Below w.heap.size w w' := by
  go_enter Tryz.func124, Tryz.ntmps124
  go_wp2_with fail
  refine (shaBegin _).mono ?_
  rintro e W1 ⟨rfl, hb⟩
  go_wp2_with (refine wpList_valop (.build 207 #[(0, .tmp 1)]) rfl (v := .agg (hashCells shaH (bs []) 0)) (w' := W1) rfl (by kernel_rfl) ?_)
  go_ret
  exact ⟨W1.heap.size, rfl, hb.size, heap_alloc_new _ _, Below.alloc hb hb.size _⟩

theorem hash_cell8 {h : List UInt32} {rest : ByteArray} {n : Int} {w : World} {g : Nat} (hh : h.length = 8) (hg : IsHash w g h rest n) : w.cell? ⟨g, 8, none⟩ = some (.string rest) := by
  rw [cell_of_row _ _ _ _ _ _ hg]
  simp [hashCells, List.getElem?_append_right (show (u32s h).length ≤ 8 by rw [u32s_length]; omega), u32s_length, hh]
theorem hash_cell9 {h : List UInt32} {rest : ByteArray} {n : Int} {w : World} {g : Nat} (hh : h.length = 8) (hg : IsHash w g h rest n) : w.cell? ⟨g, 9, none⟩ = some (.int .i64 n) := by
  rw [cell_of_row _ _ _ _ _ _ hg]
  simp [hashCells, List.getElem?_append_right (show (u32s h).length ≤ 9 by rw [u32s_length]; omega), u32s_length, hh]
theorem hash_free {h : List UInt32} {rest : ByteArray} {n : Int} {w : World} {g : Nat} (hg : IsHash w g h rest n) (j : Nat) : w.frozen? ⟨g, j, none⟩ = false := frozen_of_row w g j _ _ hg
theorem hash_set9 {h : List UInt32} {rest : ByteArray} {n : Int} {w : World} {g : Nat} (hh : h.length = 8) (hg : IsHash w g h rest n) (m : Int) : IsHash (w.setCell ⟨g, 9, none⟩ (.int .i64 m)) g h rest m := by
  have h2 := heap_setCell_same w g 9 _ _ (.int .i64 m) hg
  unfold IsHash
  rw [h2]
  have e : (hashCells h rest n).setIfInBounds 9 (.int .i64 m) = hashCells h rest m := by
    unfold hashCells
    rw [List.setIfInBounds_toArray, List.set_append_right _ _ (by rw [u32s_length]; omega)]
    simp [u32s_length, hh]
  rw [e]
theorem hash_set8 {h : List UInt32} {rest : ByteArray} {n : Int} {w : World} {g : Nat} (hh : h.length = 8) (hg : IsHash w g h rest n) (r : ByteArray) : IsHash (w.setCell ⟨g, 8, none⟩ (.string r)) g h r n := by
  have h2 := heap_setCell_same w g 8 _ _ (.string r) hg
  unfold IsHash
  rw [h2]
  have e : (hashCells h rest n).setIfInBounds 8 (.string r) = hashCells h r n := by
    unfold hashCells
    rw [List.setIfInBounds_toArray, List.set_append_right _ _ (by rw [u32s_length]; omega)]
    simp [u32s_length, hh]
  rw [e]
theorem hash_grow {h : List UInt32} {rest : ByteArray} {n : Int} {w w' : World} {g : Nat} (hg : IsHash w g h rest n) (hw : Grow w w') : IsHash w' g h rest n := grow_block hg hw

/-- The state when so many blocks are in. -/
def blocks (h : List UInt32) (l : List UInt8) : Nat → List UInt32
  | 0 => h
  | k + 1 => shaAdd (blocks h l k) ((l.drop (64 * k)).take 64)
theorem blocks_length (h : List UInt32) (l : List UInt8) (hh : h.length = 8) : ∀ k, (blocks h l k).length = 8
  | 0 => hh
  | k + 1 => shaAdd_length _ _

def feed (h : List UInt32) (l : List UInt8) : List UInt32 := blocks h l (l.length / 64)
def restOf (l : List UInt8) : List UInt8 := l.drop (64 * (l.length / 64))
theorem shaWrite (g : Nat) (h : List UInt32) (r m : List UInt8) (n : Nat) (hh : h.length = 8) (hsz : r.length + m.length ≤ 140737488355328) (hn : n ≤ 140737488355328) (w : World) (hg : IsHash w g h (bs r) n) :
    Calls Tryz.prog 125 #[.pointer (some ⟨g, 0, none⟩), .string (bs m)] w fun e w' => e = .returned (.int .i64 m.length) ∧
      IsHash w' g (feed h (r ++ m)) (bs (restOf (r ++ m))) ((n + m.length : Nat) : Int) ∧ w.grownBy w' (some g) := by
  have HG := hid hg
  have HH := hid hh
  have hms := bs_size m
  have hcat := bs_append r m
  have c8 := hash_cell8 hh hg
  have c9 := hash_cell9 hh hg
  have f8 := hash_free hg 8
  have f9 := hash_free hg 9
  have h1 : m.length ≤ 140737488355328 := by omega
  have hrs := bs_size r
  clear hg hh
  go_enter Tryz.func125, Tryz.ntmps125
  go_wp2
  have HI0 := hid (hash_set9 HH.out HG.out ((n : Int) + (m.length : Int)))
  have HN0 := hid (grownBy_setCell w g 9 (.int .i64 ((n : Int) + (m.length : Int))))
  generalize w.setCell ⟨g, 9, none⟩ (.int .i64 ((n : Int) + (m.length : Int))) = W at *
  have hal : (r ++ m).length ≤ 140737488355328 := by rw [List.length_append]; omega
  clear c8 c9 f8 f9 hcat hrs hsz HG
  generalize hl : r ++ m = l at *
  have HL := hid hl
  clear hl
  go_loopg [5] (l.length + 1) (fun q v wr => ∃ k : Nat, 64 * k ≤ l.length ∧ q = l.length - 64 * k + 1 ∧ v = .string (bs (l.drop (64 * k))) ∧ Hid (IsHash wr g (blocks h l k) (bs r) ((n : Int) + (m.length : Int))) ∧ Hid (w.grownBy wr (some g)))
  case atStart => exact ⟨0, by omega, by omega, rfl, HI0, HN0⟩
  case round =>
    obtain ⟨k, hk, hq, rfl, hI, hN⟩ := hrel
    clear HI0 HN0
    have hds : (bs (l.drop (64 * k))).size = l.length - 64 * k := by rw [bs_size, List.length_drop]
    by_cases hlt : 64 ≤ l.length - 64 * k
    · have t1 : decide ((64 : Int) ≤ ((l.length - 64 * k : Nat) : Int)) = true := by simp; omega
      have t2 : (64 : Int) ≤ ((l.length - 64 * k : Nat) : Int) := by omega
      have x1 := bs_extract (l.drop (64 * k)) 0 64
      have x2 := bs_extract (l.drop (64 * k)) 64 (l.length - 64 * k)
      have x3 : 64 ≤ (bs (l.drop (64 * k))).size := by rw [hds]; exact hlt
      go_wp2
      (refine' wp_region_head 5 1 [_, _, _, _, _] rfl (by kernel_rfl) (by kernel_rfl) ?hreg13; case' hreg13 => simp only [List.take_succ_cons, List.take_zero, List.zip_cons_cons, List.zip_nil_right, List.drop_succ_cons, List.drop_zero, List.drop_nil])
      (iterate 5 (refine' head_val ?_ ?_ ?_ ?_; rotate_left; (· rfl); (· first | exact fun _ _ _ => trivial | (intro t ht w; cases ht; simp [upE])); (· intro w' hw' _; go_simp; with_reducible rfl); simp only [Act.put, List.setIfInBounds_toArray, List.set_cons_zero, List.set_cons_succ]))
      refine head_nil ?_
      intro w2 hw2 _
      go_wp2_with fail
      have hs64 : (bs ((l.drop (64 * k)).take 64)).size = 64 := by rw [bs_size, List.length_take, List.length_drop]; omega
      have hg2 : w2.heap[g]? = some (.cells (u32s (blocks h l k) ++ [Value.string (bs r), Value.int .i64 ((n : Int) + (m.length : Int))]).toArray 207 (0, 0)) := hash_grow hI.out hw2
      refine (shaAddC g _ (blocks h l k) _ _ (blocks_length _ _ HH.out _) hs64 w2 hg2).mono ?_
      rintro e w3 ⟨rfl, hg3, hn3⟩
      rw [bl_bs] at hg3
      have HI3 : Hid (IsHash w3 g (blocks h l (k + 1)) (bs r) ((n : Int) + (m.length : Int))) := hg3
      have HN3 := hid (grownBy_trans (grownBy_trans hN.out (grownBy_grow hw2 _)) hn3)
      clear hs64 hg2 hg3 hn3 hw2
      have x4 : ((l.drop (64 * k)).drop 64).take (l.length - 64 * k - 64) = l.drop (64 * (k + 1)) := by
        rw [List.drop_drop, List.take_of_length_le (by rw [List.length_drop]; omega)]
        rfl
      rw [x4] at x2
      have t3 : (64 : Int) ≤ ((bs (l.drop (64 * k))).size : Int) := by omega
      go_wp2
      go_roundg (l.length - 64 * (k + 1) + 1)
      case rel => exact ⟨k + 1, by omega, rfl, rfl, HI3, HN3⟩
      case measure => omega
    · have t1 : decide ((64 : Int) ≤ ((l.length - 64 * k : Nat) : Int)) = false := by simp; omega
      have t2 : ¬ (64 : Int) ≤ ((l.length - 64 * k : Nat) : Int) := by omega
      have c8 := hash_cell8 (blocks_length h l HH.out k) hI.out
      have f8 := hash_free hI.out 8
      have HKK := hid (show k = l.length / 64 by omega)
      go_wp2
      go_ret
      refine ⟨rfl, ?_, grownBy_trans hN.out (grownBy_setCell _ _ _ _)⟩
      have := hash_set8 (blocks_length h l HH.out k) hI.out (bs (l.drop (64 * k)))
      rw [HL.out, feed, restOf, ← HKK.out]
      exact this
end Go.Proofs.YtabkaflccaklhaaGreat
end
section
namespace Go.Proofs.YtabkaflccaklhaaGreat
open Go.RowKit
open Go.Qk hiding rotr b4

set_option maxHeartbeats 1000000
set_option maxRecDepth 100000
theorem repeatL_zero (c : Nat) : Lib.repeatL [(0 : UInt8)] c = List.replicate c 0 := by
  induction c with
  | zero => rfl
  | succ c ih => rw [Lib.repeatL, ih]; rfl
/-- Zeros, so many. -/
theorem repeat0 (c : Nat) (hc : c ≤ 1000) (w : World) :
    Calls Tryz.prog 164 #[.string ⟨#[0]⟩, .int .i64 c] w fun e w' => e = .returned (.string (bs (List.replicate c 0))) ∧ Below w.heap.size w w' := by
  rcases Nat.lt_or_ge c 2 with h | h
  · rcases (show c = 0 ∨ c = 1 by omega) with rfl | rfl
    · exact (Tryz.strings_Repeat_zero ⟨#[0]⟩ w).mono fun e w' ⟨h1, h2⟩ => by subst h2; exact ⟨h1, Below.refl _ _⟩
    · exact (Tryz.strings_Repeat_one ⟨#[0]⟩ w).mono fun e w' ⟨h1, h2⟩ => by subst h2; exact ⟨h1, Below.refl _ _⟩
  · refine (Tryz.strings_Repeat_main ⟨#[0]⟩ c w h (by omega) (by show 1 * c ≤ _; omega) (by decide)).mono fun e w' ⟨h1, h2⟩ => ⟨?_, h2⟩
    rw [h1, show (⟨#[0]⟩ : ByteArray).data.toList = [(0 : UInt8)] from rfl, repeatL_zero]
    rfl
/-- What stands behind so many bytes. -/
def padOf (n : Nat) : List UInt8 := 128 :: (List.replicate ((119 - n % 64) % 64) 0 ++ be 8 (n * 8))
theorem shaPad (n : Nat) (hn : n ≤ 140737488355328) (w : World) :
    Calls Tryz.prog 151 #[.int .i64 n] w fun e w' => e = .returned (.string (bs (padOf n))) ∧ Below w.heap.size w w' := by
  have H1 := hid (show (119 - (n : Int)) % 64 = (((119 - n % 64) % 64 : Nat) : Int) by omega)
  have h3 : 0 ≤ 119 - (n : Int) % 64 := by omega
  go_enter Tryz.func151, Tryz.ntmps151
  go_wp2_with fail
  rw [show (n : Int) * 8 = ((n * 8 : Nat) : Int) from by omega]
  refine (number8 (n * 8) (by omega) _).mono ?_
  rintro e w1 ⟨rfl, hb⟩
  have HB1 := hid hb
  clear hb
  go_wp2_with fail
  rw [H1.out]
  refine (repeat0 ((119 - n % 64) % 64) (by omega) _).mono ?_
  rintro e w2 ⟨rfl, hb⟩
  have HB2 := hid (Grow.trans HB1.out hb)
  clear hb
  have hcat : (⟨#[128]⟩ : ByteArray) ++ bs (List.replicate ((119 - n % 64) % 64) 0) = bs (128 :: List.replicate ((119 - n % 64) % 64) 0) := bs_append [128] _
  have hcat2 : bs (128 :: List.replicate ((119 - n % 64) % 64) 0) ++ bs (be 8 (n * 8)) = bs (padOf n) := by rw [bs_append]; rfl
  have hz1 : (bs (List.replicate ((119 - n % 64) % 64) 0)).size ≤ 64 := by rw [bs_size, List.length_replicate]; omega
  have hz2 : (bs (128 :: List.replicate ((119 - n % 64) % 64) 0)).size ≤ 65 := by rw [bs_size, List.length_cons, List.length_replicate]; omega
  have hz3 : (bs (be 8 (n * 8))).size ≤ 8 := by rw [bs_size, be_length]; omega
  have hz4 : (⟨#[128]⟩ : ByteArray).size ≤ 1 := by decide
  generalize bs (128 :: List.replicate ((119 - n % 64) % 64) 0) = y at *
  generalize bs (List.replicate ((119 - n % 64) % 64) 0) = z at *
  generalize bs (be 8 (n * 8)) = q at *
  generalize hp : bs (padOf n) = p at *
  have HP := hid hp
  clear hp H1 h3
  go_wp2
  go_ret
  exact ⟨by rw [HP.out]; rfl, HB2.out⟩
theorem padOf_length (n : Nat) : (padOf n).length ≤ 73 := by simp [padOf, be_length]; omega
end Go.Proofs.YtabkaflccaklhaaGreat
end
section
namespace Go.Proofs.YtabkaflccaklhaaGreat
open Go.RowKit
open Go.Qk hiding rotr b4

set_option maxHeartbeats 1000000
set_option maxRecDepth 100000
theorem szHash : (Tryz.prog.info? 207).map (·.size) = some 10 := by kernel_rfl
theorem szId : (Tryz.prog.info? 42).map (·.size) = some 32 := by kernel_rfl
/-- The sum of what was written: the state, the rest, how many bytes. -/
def finish (h : List UInt32) (r : List UInt8) (n : Nat) : List UInt8 := (feed h (r ++ padOf n)).flatMap b4
theorem flat_b4 : ∀ m : List UInt32, (m.flatMap b4).length = 4 * m.length
  | [] => rfl
  | a :: m => by rw [List.flatMap_cons, List.length_append, flat_b4 m, b4_length, List.length_cons]; omega
theorem feed_length (h : List UInt32) (l : List UInt8) (hh : h.length = 8) : (feed h l).length = 8 := blocks_length _ _ hh _
theorem finish_length (h : List UInt32) (r : List UInt8) (n : Nat) (hh : h.length = 8) : (finish h r n).length = 32 := by rw [finish, flat_b4, feed_length _ _ hh]
def zero8 (n : Nat) : List UInt8 := List.replicate n 0

theorem shaHashSum (g : Nat) (h : List UInt32) (r : List UInt8) (n : Nat) (hh : h.length = 8) (hr : r.length < 64) (hn : n ≤ 140737488355328) (w : World) (hg : IsHash w g h (bs r) n) :
    Calls Tryz.prog 126 #[.pointer (some ⟨g, 0, none⟩)] w fun e w' => e = .returned (idV (finish h r n)) ∧ Below w.heap.size w w' := by
  have HG := hid hg
  have HH := hid hh
  have HR := hid hr
  have hlt : g < w.heap.size := (Array.getElem?_eq_some_iff.1 hg).1
  have HLT := hid hlt
  clear hg hh hr hlt
  go_enter Tryz.func126, Tryz.ntmps126
  apply wp_seq_k; intro _ _; apply wp_region_lit
  refine wpList_val (v := .pointer (some ⟨w.heap.size, 0, none⟩)) (w' := w.alloc (.cells (u8s (zero8 32)).toArray 42)) rfl (by kernel_rfl) ?_
  have hg0 : (w.alloc (.cells (u8s (zero8 32)).toArray 42)).heap[w.heap.size]? = some (.cells (u8s (zero8 32)).toArray 42 (0, 0)) := heap_alloc_new _ _
  have hb0 : Grow w (w.alloc (.cells (u8s (zero8 32)).toArray 42)) := grow_alloc _ _
  generalize w.alloc (.cells (u8s (zero8 32)).toArray 42) = W at *
  have HW := hid hg0
  have HB := hid hb0
  have HGW := hid (hash_grow HG.out hb0)
  have hwl : w.heap.size < W.heap.size := (Array.getElem?_eq_some_iff.1 hg0).1
  have HWL := hid hwl
  clear hg0 hb0 hwl
  simp only [Act.put, List.setIfInBounds_toArray, List.set_cons_zero, List.set_cons_succ]
  refine wpList_nil ?_
  go_wp2_with (first | (refine wpList_load_agg rfl 207 (.tmp 5) rfl ⟨g, 0, none⟩ rfl (u32s h ++ [Value.string (bs r), Value.int .i64 n]) _ (cells_block (tl := []) (by rw [List.append_nil]; exact HGW.out)) Tryz.underlying207 rfl (by rw [szHash, List.length_append, u32s_length, HH.out]; rfl) ?_) | (refine store_block 207 (.tmp 3) (.tmp 6) W.heap.size 0 (u32s h ++ [Value.string (bs r), Value.int .i64 n]) (u32s (zeros 8) ++ [Value.string ⟨#[]⟩, Value.int .i64 0]) (u32s h ++ [Value.string (bs r), Value.int .i64 n]) 207 rfl rfl rfl rfl rfl (heap_alloc_new _ _) (by rw [szHash, List.length_append, u32s_length, HH.out]; rfl) ?c1 ?c3 ?c2 ?_))
  case c1 => simp [u32s_length, zeros_length, HH.out]
  case c3 =>
    intro v hv
    rcases List.mem_append.1 hv with hv | hv
    · exact u32s_one _ v hv
    · simp at hv; rcases hv with rfl | rfl <;> rfl
  case c2 => simp [u32s_length, HH.out, zeros, u32s]
  intro W1 hw1 hg1 hb1
  have HE1 : Hid (IsHash W1 W.heap.size h (bs r) n) := hw1
  have HB1 := hid (hb1 _ _ (HB.out.alloc HB.out.size _) HB.out.size)
  have HGW1 : Hid (IsHash W1 g h (bs r) n) := by
    have hne : g ≠ W.heap.size := by have := HLT.out; have := HWL.out; omega
    exact (hg1.block g (by simp; have := HLT.out; have := HWL.out; omega) (by simpa using hne)).trans ((heap_alloc_old _ _ (by have := HLT.out; have := HWL.out; omega)).trans HGW.out)
  have HR1 : Hid (W1.heap[w.heap.size]? = some (.cells (u8s (zero8 32)).toArray 42 (0, 0))) := by
    have hne : w.heap.size ≠ W.heap.size := by have := HWL.out; omega
    exact (hg1.block w.heap.size (by simp; have := HWL.out; omega) (by simpa using hne)).trans ((heap_alloc_old _ _ HWL.out).trans HW.out)
  clear hw1 hg1 hb1 HW HGW HB
  generalize W.heap.size = ge at *
  have c9 := hash_cell9 HH.out HGW1.out
  go_wp2_with fail
  refine (shaPad n hn _).mono ?_
  rintro e W2 ⟨rfl, hb⟩
  have HE2 := hid (hash_grow HE1.out hb)
  have HB2 := hid (Grow.trans HB1.out hb)
  have HR2 := hid (grow_block HR1.out hb)
  clear hb c9 HE1 HGW1 HB1 HR1
  go_wp2_with fail
  refine (shaWrite ge h r (padOf n) n HH.out (by have := padOf_length n; have := HR.out; omega) hn _ HE2.out).mono ?_
  rintro e W3 ⟨rfl, he3, hn3⟩
  have HE3 := hid he3
  have HB3 : Hid (Grow w W3) := Below.grown HB2.out hn3 HB2.out.size (fun k hk => by have := HWL.out; injection hk with hk; omega)
  have HR3 : Hid (W3.heap[w.heap.size]? = some (.cells (u8s (zero8 32)).toArray 42 (0, 0))) := (hn3.block _ (Array.getElem?_eq_some_iff.1 HR2.out).1 (by have := HWL.out; intro e; injection e with e; omega)).trans HR2.out
  clear he3 hn3 HE2 HB2 HR2
  have hl8 := feed_length h (r ++ padOf n) HH.out
  have hwb := fun w' (hw' : Grow W3 w') => wordBytes8 (feed h (r ++ padOf n)) hl8 ⟨ge, 0, none⟩ 8 w' (fun i hi => by
    rw [addr_add]
    exact cell_head HE3.out hw' i _ (u32s_get _ i (by rw [hl8]; exact hi)))
  have HWB := hid hwb
  have hfin : (feed h (r ++ padOf n)).flatMap b4 = finish h r n := rfl
  have hfl := finish_length h r n HH.out
  rw [hfin] at HWB
  clear hwb hfin
  generalize hSF : finish h r n = F at *
  have HSF := hid hSF
  clear hSF
  go_wp2_with fail
  refine (HWB.out _ (grow_refl _)).mono ?_
  rintro e W4 ⟨rfl, hb⟩
  have HB4 := hid (Grow.trans HB3.out hb)
  have HR4 := hid (grow_block HR3.out hb)
  clear hb HB3 HR3 HWB
  go_wp2_with (refine conv_bytes 9 85 5 (.tmp 15) F rfl rfl rfl Tryz.underlying9 Tryz.underlying85 Tryz.underlying5 ?_)
  intro W5 cap hw5 _ _ hc5
  have hat : ∀ w, (Instr.arrayAt 42 (.slice (some ⟨W4.heap.size, 0, none⟩) F.length cap)).run Tryz.prog w = .ok (.pointer (some ⟨W4.heap.size, 0, none⟩)) w := fun w => run_arrayAt w 42 _ 32 _ F.length cap Tryz.underlying42 (by omega)
  rw [hfl] at hat
  have HB5 := hid (Grow.trans HB4.out hw5)
  have HR5 := hid (grow_block HR4.out hw5)
  have HC5 := hid hc5
  clear hw5 hc5 HB4 HR4
  go_wp2_with (first | (refine wpList_load_agg rfl 42 (.tmp 17) rfl ⟨W4.heap.size, 0, none⟩ rfl (u8s F) _ (fun j v h => by rw [addr_add]; exact HC5.out j v h) Tryz.underlying42 rfl (by rw [szId, u8s_length, hfl]) ?_) | (refine store_block 42 (.tmp 2) (.tmp 18) w.heap.size 0 (u8s F) (u8s (zero8 32)) (u8s F) 42 rfl rfl rfl rfl rfl HR5.out (by rw [szId, u8s_length, hfl]) ?c1 (u8s_one _) ?c2 ?_))
  case c1 => simp [u8s_length, zero8, hfl]
  case c2 => simp [u8s_length, hfl, zero8]
  intro W6 hw6 _ hb6
  have HB6 := hid (hb6 _ _ HB5.out (Nat.le_refl _))
  have HR6 := hid hw6
  clear hw6 hb6 hat HB5 HR5 HC5
  go_wp2
  refine bodyPost_ret (v := idV F) (results_cell_row rfl _ _ w.heap.size 42 _ (0, 0) _ rfl HR6.out Tryz.underlying42 rfl (by rw [szId]; simp [u8s_length, hfl])) rfl ⟨by rw [HSF.out], HB6.out⟩

/-- The sum of a text. -/
def shaOf (l : List UInt8) : List UInt8 := finish (feed shaH l) (restOf l) l.length
theorem restOf_length (l : List UInt8) : (restOf l).length < 64 := by rw [restOf, List.length_drop]; omega
theorem shaOf_length (l : List UInt8) : (shaOf l).length = 32 := finish_length _ _ _ (feed_length _ _ rfl)

theorem shaSum (l : List UInt8) (hl : l.length ≤ 140737488355328) (w : World) :
    Calls Tryz.prog 81 #[.string (bs l)] w fun e w' => e = .returned (idV (shaOf l)) ∧ Below w.heap.size w w' := by
  go_enter Tryz.func81, Tryz.ntmps81
  apply wp_seq_k; intro _ _; apply wp_region_lit
  refine wpList_val (v := .pointer (some ⟨w.heap.size, 0, none⟩)) (w' := w.alloc (.cells (u8s (zero8 32)).toArray 42)) rfl (by kernel_rfl) ?_
  have hg0 : (w.alloc (.cells (u8s (zero8 32)).toArray 42)).heap[w.heap.size]? = some (.cells (u8s (zero8 32)).toArray 42 (0, 0)) := heap_alloc_new _ _
  have hb0 : Grow w (w.alloc (.cells (u8s (zero8 32)).toArray 42)) := grow_alloc _ _
  generalize w.alloc (.cells (u8s (zero8 32)).toArray 42) = W at *
  have HW := hid hg0
  have HB := hid hb0
  have hwl : w.heap.size < W.heap.size := (Array.getElem?_eq_some_iff.1 hg0).1
  have HWL := hid hwl
  clear hg0 hb0 hwl
  simp only [Act.put, List.setIfInBounds_toArray, List.set_cons_zero, List.set_cons_succ]
  refine wpList_nil ?_
  go_wp2_with fail
  refine (shaNew _).mono ?_
  rintro e W1 ⟨g, rfl, hge, hg, hb⟩
  have HI1 := hid hg
  have HB1 := hid (Grow.trans HB.out hb)
  have HR1 := hid (grow_block HW.out hb)
  have HGE := hid (show w.heap.size < g by have := HWL.out; omega)
  clear hge hg hb HB HW HWL
  go_wp2_with fail
  refine (shaWrite g shaH [] l 0 rfl (by simpa using hl) (by omega) _ HI1.out).mono ?_
  rintro e W2 ⟨rfl, hi2, hn2⟩
  rw [List.nil_append] at hi2
  have HI2 : Hid (IsHash W2 g (feed shaH l) (bs (restOf l)) (l.length : Int)) := by rw [Nat.zero_add] at hi2; exact hi2
  have HB2 : Hid (Grow w W2) := Below.grown HB1.out hn2 HB1.out.size (fun k hk => by have := HGE.out; injection hk with hk; omega)
  have HR2 : Hid (W2.heap[w.heap.size]? = some (.cells (u8s (zero8 32)).toArray 42 (0, 0))) := (hn2.block _ (Array.getElem?_eq_some_iff.1 HR1.out).1 (by have := HGE.out; intro e; injection e with e; omega)).trans HR1.out
  clear hi2 hn2 HI1 HB1 HR1
  go_wp2_with fail
  refine (shaHashSum g (feed shaH l) (restOf l) l.length (feed_length _ _ rfl) (restOf_length l) hl _ HI2.out).mono ?_
  rintro e W3 ⟨rfl, hb⟩
  have HB3 := hid (Grow.trans HB2.out hb)
  have HR3 := hid (grow_block HR2.out hb)
  have hfl := shaOf_length l
  have hF : finish (feed shaH l) (restOf l) l.length = shaOf l := rfl
  rw [hF]
  clear hb HB2 HR2 HI2 hF
  generalize hSF : shaOf l = F at *
  have HSF := hid hSF
  clear hSF
  unfold idV
  go_wp2_with (refine store_block 42 (.tmp 2) (.tmp 9) w.heap.size 0 (u8s F) (u8s (zero8 32)) (u8s F) 42 rfl rfl rfl rfl rfl HR3.out (by rw [szId, u8s_length, hfl]) ?c1 (u8s_one _) ?c2 ?_)
  case c1 => simp [u8s_length, zero8, hfl]
  case c2 => simp [u8s_length, hfl, zero8]
  intro W6 hw6 _ hb6
  have HB6 := hid (hb6 _ _ HB3.out (Nat.le_refl _))
  have HR6 := hid hw6
  clear hw6 hb6 HB3 HR3
  go_wp2
  refine bodyPost_ret (v := .agg (u8s F).toArray) (results_cell_row rfl _ _ w.heap.size 42 _ (0, 0) _ rfl HR6.out Tryz.underlying42 rfl (by rw [szId]; simp [u8s_length, hfl])) rfl ⟨by rw [HSF.out]; rfl, HB6.out⟩
end Go.Proofs.YtabkaflccaklhaaGreat
end
