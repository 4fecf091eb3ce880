import Derived.Test.YtkibibgbmkejjaaQShaG
set_option linter.unusedSimpArgs false
set_option linter.unusedVariables false
namespace Go.Proofs.Ytkibibgbmkejjaa
open Go.RowKit
open Go.Qk hiding rotr b4

set_option maxHeartbeats 1000000
set_option maxRecDepth 100000
theorem szHash : (Try.prog.info? 162).map (·.size) = some 10 := by kernel_rfl
theorem szId : (Try.prog.info? 23).map (·.size) = some 32 := by kernel_rfl
/-- The sum of what was written: the state, the rest, how many bytes. -/
def finish (h : List UInt32) (r : List UInt8) (n : Nat) : List UInt8 := (feed h (r ++ padOf n)).flatMap b4
theorem flat_b4 : ∀ m : List UInt32, (m.flatMap b4).length = 4 * m.length
  | [] => rfl
  | a :: m => by rw [List.flatMap_cons, List.length_append, flat_b4 m, b4_length, List.length_cons]; omega
theorem feed_length (h : List UInt32) (l : List UInt8) (hh : h.length = 8) : (feed h l).length = 8 := blocks_length _ _ hh _
theorem finish_length (h : List UInt32) (r : List UInt8) (n : Nat) (hh : h.length = 8) : (finish h r n).length = 32 := by rw [finish, flat_b4, feed_length _ _ hh]
def zero8 (n : Nat) : List UInt8 := List.replicate n 0

theorem shaHashSum (g : Nat) (h : List UInt32) (r : List UInt8) (n : Nat) (hh : h.length = 8) (hr : r.length < 64) (hn : n ≤ 140737488355328) (w : World) (hg : IsHash w g h (bs r) n) :
    Calls Try.prog 143 #[.pointer (some ⟨g, 0, none⟩)] w fun e w' => e = .returned (idV (finish h r n)) ∧ Below w.heap.size w w' := by
  have HG := hid hg
  have HH := hid hh
  have HR := hid hr
  have hlt : g < w.heap.size := (Array.getElem?_eq_some_iff.1 hg).1
  have HLT := hid hlt
  clear hg hh hr hlt
  go_enter Try.func143, Try.ntmps143
  apply wp_seq_k; intro _ _; apply wp_region_lit
  refine wpList_val (v := .pointer (some ⟨w.heap.size, 0, none⟩)) (w' := w.alloc (.cells (u8s (zero8 32)).toArray 23)) rfl (by kernel_rfl) ?_
  have hg0 : (w.alloc (.cells (u8s (zero8 32)).toArray 23)).heap[w.heap.size]? = some (.cells (u8s (zero8 32)).toArray 23 (0, 0)) := heap_alloc_new _ _
  have hb0 : Grow w (w.alloc (.cells (u8s (zero8 32)).toArray 23)) := grow_alloc _ _
  generalize w.alloc (.cells (u8s (zero8 32)).toArray 23) = W at *
  have HW := hid hg0
  have HB := hid hb0
  have HGW := hid (hash_grow HG.out hb0)
  have hwl : w.heap.size < W.heap.size := (Array.getElem?_eq_some_iff.1 hg0).1
  have HWL := hid hwl
  clear hg0 hb0 hwl
  simp only [Act.put, List.setIfInBounds_toArray, List.set_cons_zero, List.set_cons_succ]
  refine wpList_nil ?_
  go_wp2_with (first | (refine wpList_load_agg rfl 162 (.tmp 5) rfl ⟨g, 0, none⟩ rfl (u32s h ++ [Value.string (bs r), Value.int .i64 n]) _ (cells_block (tl := []) (by rw [List.append_nil]; exact HGW.out)) Try.underlying162 rfl (by rw [szHash, List.length_append, u32s_length, HH.out]; rfl) ?_) | (refine store_block 162 (.tmp 3) (.tmp 6) W.heap.size 0 (u32s h ++ [Value.string (bs r), Value.int .i64 n]) (u32s (zeros 8) ++ [Value.string ⟨#[]⟩, Value.int .i64 0]) (u32s h ++ [Value.string (bs r), Value.int .i64 n]) 162 rfl rfl rfl rfl rfl (heap_alloc_new _ _) (by rw [szHash, List.length_append, u32s_length, HH.out]; rfl) ?c1 ?c3 ?c2 ?_))
  case c1 => simp [u32s_length, zeros_length, HH.out]
  case c3 =>
    intro v hv
    rcases List.mem_append.1 hv with hv | hv
    · exact u32s_one _ v hv
    · simp at hv; rcases hv with rfl | rfl <;> rfl
  case c2 => simp [u32s_length, HH.out, zeros, u32s]
  intro W1 hw1 hg1 hb1
  have HE1 : Hid (IsHash W1 W.heap.size h (bs r) n) := hw1
  have HB1 := hid (hb1 _ _ (HB.out.alloc HB.out.size _) HB.out.size)
  have HGW1 : Hid (IsHash W1 g h (bs r) n) := by
    have hne : g ≠ W.heap.size := by have := HLT.out; have := HWL.out; omega
    exact (hg1.block g (by simp; have := HLT.out; have := HWL.out; omega) (by simpa using hne)).trans ((heap_alloc_old _ _ (by have := HLT.out; have := HWL.out; omega)).trans HGW.out)
  have HR1 : Hid (W1.heap[w.heap.size]? = some (.cells (u8s (zero8 32)).toArray 23 (0, 0))) := by
    have hne : w.heap.size ≠ W.heap.size := by have := HWL.out; omega
    exact (hg1.block w.heap.size (by simp; have := HWL.out; omega) (by simpa using hne)).trans ((heap_alloc_old _ _ HWL.out).trans HW.out)
  clear hw1 hg1 hb1 HW HGW HB
  generalize W.heap.size = ge at *
  have c9 := hash_cell9 HH.out HGW1.out
  go_wp2_with fail
  refine (shaPad n hn _).mono ?_
  rintro e W2 ⟨rfl, hb⟩
  have HE2 := hid (hash_grow HE1.out hb)
  have HB2 := hid (Grow.trans HB1.out hb)
  have HR2 := hid (grow_block HR1.out hb)
  clear hb c9 HE1 HGW1 HB1 HR1
  go_wp2_with fail
  refine (shaWrite ge h r (padOf n) n HH.out (by have := padOf_length n; have := HR.out; omega) hn _ HE2.out).mono ?_
  rintro e W3 ⟨rfl, he3, hn3⟩
  have HE3 := hid he3
  have HB3 : Hid (Grow w W3) := Below.grown HB2.out hn3 HB2.out.size (fun k hk => by have := HWL.out; injection hk with hk; omega)
  have HR3 : Hid (W3.heap[w.heap.size]? = some (.cells (u8s (zero8 32)).toArray 23 (0, 0))) := (hn3.block _ (Array.getElem?_eq_some_iff.1 HR2.out).1 (by have := HWL.out; intro e; injection e with e; omega)).trans HR2.out
  clear he3 hn3 HE2 HB2 HR2
  have hl8 := feed_length h (r ++ padOf n) HH.out
  have hwb := fun w' (hw' : Grow W3 w') => wordBytes8 (feed h (r ++ padOf n)) hl8 ⟨ge, 0, none⟩ 8 w' (fun i hi => by
    rw [addr_add]
    exact cell_head HE3.out hw' i _ (u32s_get _ i (by rw [hl8]; exact hi)))
  have HWB := hid hwb
  have hfin : (feed h (r ++ padOf n)).flatMap b4 = finish h r n := rfl
  have hfl := finish_length h r n HH.out
  rw [hfin] at HWB
  clear hwb hfin
  generalize hSF : finish h r n = F at *
  have HSF := hid hSF
  clear hSF
  go_wp2_with fail
  refine (HWB.out _ (grow_refl _)).mono ?_
  rintro e W4 ⟨rfl, hb⟩
  have HB4 := hid (Grow.trans HB3.out hb)
  have HR4 := hid (grow_block HR3.out hb)
  clear hb HB3 HR3 HWB
  go_wp2_with (refine conv_bytes 9 112 5 (.tmp 15) F rfl rfl rfl Try.underlying9 Try.underlying112 Try.underlying5 ?_)
  intro W5 cap hw5 _ _ hc5
  have hat : ∀ w, (Instr.arrayAt 23 (.slice (some ⟨W4.heap.size, 0, none⟩) F.length cap)).run Try.prog w = .ok (.pointer (some ⟨W4.heap.size, 0, none⟩)) w := fun w => run_arrayAt w 23 _ 32 _ F.length cap Try.underlying23 (by omega)
  rw [hfl] at hat
  have HB5 := hid (Grow.trans HB4.out hw5)
  have HR5 := hid (grow_block HR4.out hw5)
  have HC5 := hid hc5
  clear hw5 hc5 HB4 HR4
  go_wp2_with (first | (refine wpList_load_agg rfl 23 (.tmp 17) rfl ⟨W4.heap.size, 0, none⟩ rfl (u8s F) _ (fun j v h => by rw [addr_add]; exact HC5.out j v h) Try.underlying23 rfl (by rw [szId, u8s_length, hfl]) ?_) | (refine store_block 23 (.tmp 2) (.tmp 18) w.heap.size 0 (u8s F) (u8s (zero8 32)) (u8s F) 23 rfl rfl rfl rfl rfl HR5.out (by rw [szId, u8s_length, hfl]) ?c1 (u8s_one _) ?c2 ?_))
  case c1 => simp [u8s_length, zero8, hfl]
  case c2 => simp [u8s_length, hfl, zero8]
  intro W6 hw6 _ hb6
  have HB6 := hid (hb6 _ _ HB5.out (Nat.le_refl _))
  have HR6 := hid hw6
  clear hw6 hb6 hat HB5 HR5 HC5
  go_wp2
  refine bodyPost_ret (v := idV F) (results_cell_row rfl _ _ w.heap.size 23 _ (0, 0) _ rfl HR6.out Try.underlying23 rfl (by rw [szId]; simp [u8s_length, hfl])) rfl ⟨by rw [HSF.out], HB6.out⟩

/-- The sum of a text. -/
def shaOf (l : List UInt8) : List UInt8 := finish (feed shaH l) (restOf l) l.length
theorem restOf_length (l : List UInt8) : (restOf l).length < 64 := by rw [restOf, List.length_drop]; omega
theorem shaOf_length (l : List UInt8) : (shaOf l).length = 32 := finish_length _ _ _ (feed_length _ _ rfl)

theorem shaSum (l : List UInt8) (hl : l.length ≤ 140737488355328) (w : World) :
    Calls Try.prog 108 #[.string (bs l)] w fun e w' => e = .returned (idV (shaOf l)) ∧ Below w.heap.size w w' := by
  go_enter Try.func108, Try.ntmps108
  apply wp_seq_k; intro _ _; apply wp_region_lit
  refine wpList_val (v := .pointer (some ⟨w.heap.size, 0, none⟩)) (w' := w.alloc (.cells (u8s (zero8 32)).toArray 23)) rfl (by kernel_rfl) ?_
  have hg0 : (w.alloc (.cells (u8s (zero8 32)).toArray 23)).heap[w.heap.size]? = some (.cells (u8s (zero8 32)).toArray 23 (0, 0)) := heap_alloc_new _ _
  have hb0 : Grow w (w.alloc (.cells (u8s (zero8 32)).toArray 23)) := grow_alloc _ _
  generalize w.alloc (.cells (u8s (zero8 32)).toArray 23) = W at *
  have HW := hid hg0
  have HB := hid hb0
  have hwl : w.heap.size < W.heap.size := (Array.getElem?_eq_some_iff.1 hg0).1
  have HWL := hid hwl
  clear hg0 hb0 hwl
  simp only [Act.put, List.setIfInBounds_toArray, List.set_cons_zero, List.set_cons_succ]
  refine wpList_nil ?_
  go_wp2_with fail
  refine (shaNew _).mono ?_
  rintro e W1 ⟨g, rfl, hge, hg, hb⟩
  have HI1 := hid hg
  have HB1 := hid (Grow.trans HB.out hb)
  have HR1 := hid (grow_block HW.out hb)
  have HGE := hid (show w.heap.size < g by have := HWL.out; omega)
  clear hge hg hb HB HW HWL
  go_wp2_with fail
  refine (shaWrite g shaH [] l 0 rfl (by simpa using hl) (by omega) _ HI1.out).mono ?_
  rintro e W2 ⟨rfl, hi2, hn2⟩
  rw [List.nil_append] at hi2
  have HI2 : Hid (IsHash W2 g (feed shaH l) (bs (restOf l)) (l.length : Int)) := by rw [Nat.zero_add] at hi2; exact hi2
  have HB2 : Hid (Grow w W2) := Below.grown HB1.out hn2 HB1.out.size (fun k hk => by have := HGE.out; injection hk with hk; omega)
  have HR2 : Hid (W2.heap[w.heap.size]? = some (.cells (u8s (zero8 32)).toArray 23 (0, 0))) := (hn2.block _ (Array.getElem?_eq_some_iff.1 HR1.out).1 (by have := HGE.out; intro e; injection e with e; omega)).trans HR1.out
  clear hi2 hn2 HI1 HB1 HR1
  go_wp2_with fail
  refine (shaHashSum g (feed shaH l) (restOf l) l.length (feed_length _ _ rfl) (restOf_length l) hl _ HI2.out).mono ?_
  rintro e W3 ⟨rfl, hb⟩
  have HB3 := hid (Grow.trans HB2.out hb)
  have HR3 := hid (grow_block HR2.out hb)
  have hfl := shaOf_length l
  have hF : finish (feed shaH l) (restOf l) l.length = shaOf l := rfl
  rw [hF]
  clear hb HB2 HR2 HI2 hF
  generalize hSF : shaOf l = F at *
  have HSF := hid hSF
  clear hSF
  unfold idV
  go_wp2_with (refine store_block 23 (.tmp 2) (.tmp 9) w.heap.size 0 (u8s F) (u8s (zero8 32)) (u8s F) 23 rfl rfl rfl rfl rfl HR3.out (by rw [szId, u8s_length, hfl]) ?c1 (u8s_one _) ?c2 ?_)
  case c1 => simp [u8s_length, zero8, hfl]
  case c2 => simp [u8s_length, hfl, zero8]
  intro W6 hw6 _ hb6
  have HB6 := hid (hb6 _ _ HB3.out (Nat.le_refl _))
  have HR6 := hid hw6
  clear hw6 hb6 HB3 HR3
  go_wp2
  refine bodyPost_ret (v := .agg (u8s F).toArray) (results_cell_row rfl _ _ w.heap.size 23 _ (0, 0) _ rfl HR6.out Try.underlying23 rfl (by rw [szId]; simp [u8s_length, hfl])) rfl ⟨by rw [HSF.out]; rfl, HB6.out⟩
end Go.Proofs.Ytkibibgbmkejjaa
