import Derived.Test.YtkibibgbmkejjaaQId5
import Derived.Laws.ResultCell
set_option linter.unusedSimpArgs false
set_option linter.unusedVariables false
namespace Go.Proofs.Ytkibibgbmkejjaa
open Go.RowKit
open Go.Qk
set_option maxHeartbeats 1000000
set_option maxRecDepth 100000
theorem results_row_tmp {P : Program} {fn : Func} {p u : Tmp} {ty : TypeId} (h : fn.results = #[.cell p ty, .tmp u]) (tmps : Array Value) (w : World) (g : Nat) (t : TypeId) (cs : Array Value) (fr : Nat × Nat) (d : TypeDesc)
    (hp : tmps.getD p undef = .pointer (some ⟨g, 0, none⟩)) (hg : w.heap[g]? = some (.cells cs t fr))
    (hu : P.underlying ty = some d) (hd : (match d with | .struct _ | .array _ _ => true | _ => false) = true) (hi : (P.info? ty).map (·.size) = some cs.size) :
    (results fn tmps).run P w = .ok (.tuple #[.agg cs, tmps.getD u undef]) w := by
  rw [results_cell_tmp h, hp]
  have h1 : (asAddr (.pointer (some ⟨g, 0, none⟩))).run P w = .ok ⟨g, 0, none⟩ w := by simp [asAddr]
  rw [h1]
  simp only [Result.andThen_ok]
  rw [run_loadVar_row w g t ty cs fr d hg hu hd hi]
  rfl
def pairOk (l : List UInt8) (i : Nat) : Bool := decide (0 ≤ dval (l.getD (2 * i) 0)) && decide (0 ≤ dval (l.getD (2 * i + 1) 0))
def pairB (l : List UInt8) (i : Nat) : UInt8 := UInt8.ofNat (16 * (dval (l.getD (2 * i) 0)).toNat + (dval (l.getD (2 * i + 1) 0)).toNat)
def parseTo (l : List UInt8) (k : Nat) : List UInt8 := (List.range k).map (pairB l)
def parseOk (l : List UInt8) : Bool := decide (l.length = 64) && (List.range 32).all (pairOk l)
def parseErr (l : List UInt8) : Int := if parseOk l then 0 else 3
/-- The id that a text is; all zeros, if it is none. -/
def parse (l : List UInt8) : List UInt8 := if parseOk l then parseTo l 32 else zero8 32
theorem parse_length (l : List UInt8) : (parse l).length = 32 := by unfold parse; split <;> simp [parseTo, zero8]
theorem parseTo_length (l : List UInt8) (k : Nat) : (parseTo l k).length = k := by simp [parseTo]
theorem parseTo_succ (l : List UInt8) (k : Nat) : parseTo l (k + 1) = parseTo l k ++ [pairB l k] := by simp [parseTo, List.range_succ]
theorem parse_bad (l : List UInt8) (k : Nat) (hk : k < 32) (h : pairOk l k = false) : parseOk l = false := by
  unfold parseOk
  rw [Bool.and_eq_false_iff]
  right
  rw [List.all_eq_false]
  exact ⟨k, List.mem_range.2 hk, by simp [h]⟩
theorem parse_set (l : List UInt8) (k : Nat) (hk : k < 32) : (u8s (parseTo l k ++ zero8 (32 - k))).toArray.setIfInBounds k (.int .u8 ((pairB l k).toNat : Int)) = (u8s (parseTo l (k + 1) ++ zero8 (32 - (k + 1)))).toArray := by
  have h1 : zero8 (32 - k) = 0 :: zero8 (32 - (k + 1)) := by
    rw [zero8, show 32 - k = (32 - (k + 1)) + 1 from by omega]
    rfl
  have hl := parseTo_length l k
  rw [parseTo_succ, h1, List.setIfInBounds_toArray, u8s_append, List.set_append_right _ _ (by rw [u8s_length, hl]; omega), u8s_length, hl]
  simp only [u8s, List.map_append, List.map_cons, List.map_nil, List.set_cons_zero, Nat.sub_self, List.append_assoc, List.cons_append, List.nil_append]
theorem orF : ∀ a b : Fin 16, bits .or .i64 (((a.val : Nat) : Int) * 16) ((b.val : Nat) : Int) = ((16 * a.val + b.val : Nat) : Int) := by decide +kernel
theorem or16 (a b : Nat) (ha : a < 16) (hb : b < 16) : bits .or .i64 ((a : Int) * 16) (b : Int) = ((16 * a + b : Nat) : Int) := orF ⟨a, ha⟩ ⟨b, hb⟩
theorem idParse (l : List UInt8) (hsz : l.length ≤ 1000000) (w : World) :
    Calls Try.prog 21 #[.string (bs l)] w fun e w' => e = .returned (.tuple #[idV (parse l), .int .i64 (parseErr l)]) ∧ Below w.heap.size w w' := by
  have hbl : ∀ (s : List UInt8), bl (bs s) = s := bl_bs
  have hs := bs_size l
  go_enter Try.func21, Try.ntmps21
  apply wp_seq_k; intro _ _; apply wp_region_lit
  refine wpList_val (v := .pointer (some ⟨w.heap.size, 0, none⟩)) (w' := w.alloc (.cells (u8s (zero8 32)).toArray 23)) rfl (by kernel_rfl) ?_
  have hg0 : (w.alloc (.cells (u8s (zero8 32)).toArray 23)).heap[w.heap.size]? = some (.cells (u8s (zero8 32)).toArray 23 (0, 0)) := heap_alloc_new _ _
  have hb0 : Grow w (w.alloc (.cells (u8s (zero8 32)).toArray 23)) := grow_alloc _ _
  generalize w.alloc (.cells (u8s (zero8 32)).toArray 23) = W at *
  have HW := hid hg0
  have HB := hid hb0
  have HWL := hid (show w.heap.size < W.heap.size from (Array.getElem?_eq_some_iff.1 hg0).1)
  clear hg0 hb0
  simp only [Act.put, List.setIfInBounds_toArray, List.set_cons_zero, List.set_cons_succ]
  refine wpList_val (v := .int .i64 0) (w' := W) rfl (by kernel_rfl) ?_
  simp only [Act.put, List.setIfInBounds_toArray, List.set_cons_zero, List.set_cons_succ]
  refine wpList_nil ?_
  go_upto_region 1 with (fail)
  apply wp_region_lit
  refine wpList_val (v := .pointer (some ⟨W.heap.size, 0, none⟩)) (w' := W.alloc (.cells (u8s (zero8 32)).toArray 23)) rfl (by kernel_rfl) ?_
  have hg1 : (W.alloc (.cells (u8s (zero8 32)).toArray 23)).heap[W.heap.size]? = some (.cells (u8s (zero8 32)).toArray 23 (0, 0)) := heap_alloc_new _ _
  have hb1 : Grow W (W.alloc (.cells (u8s (zero8 32)).toArray 23)) := grow_alloc _ _
  generalize W.alloc (.cells (u8s (zero8 32)).toArray 23) = W1 at *
  have HG4 := hid hg1
  have HG2 := hid (grow_block HW.out hb1)
  have HB1 := hid (HB.out.trans hb1)
  clear hg1 hb1 HW HB
  generalize W.heap.size = g4 at *
  simp only [Act.put, List.setIfInBounds_toArray, List.set_cons_zero, List.set_cons_succ]
  refine wpList_nil ?_
  by_cases h64 : l.length = 64
  · have HE := hid h64
    go_wp2_with fail
    go_loopg [12] 33 (fun q i wr => ∃ k : Nat, k ≤ 32 ∧ q = 33 - k ∧ i = .int .i64 k ∧ Hid ((List.range k).all (pairOk l) = true) ∧ Hid (wr.heap[g4]? = some (.cells (u8s (parseTo l k ++ zero8 (32 - k))).toArray 23 (0, 0))) ∧ Hid (wr.heap[w.heap.size]? = some (.cells (u8s (zero8 32)).toArray 23 (0, 0))) ∧ Hid (Grow w wr))
    case atStart => exact ⟨0, by omega, rfl, rfl, hid rfl, HG4, HG2, HB1⟩
    case round =>
      clear HG4 HG2 HB1
      obtain ⟨k, hk, hq, rfl, hA, h4, h2, hB⟩ := hrel
      by_cases hlt : k < 32
      · have n0 : (0 : Int) ≤ (k : Int) := by omega
        have n1 : (k : Int) < 32 := by omega
        have i1 : ∀ w, (Instr.index 9 (.string (bs l)) (.int .i64 (2 * (k : Int)))).run Try.prog w = .ok (.int .u8 ((l.getD (2 * k) 0).toNat : Int)) w := fun w => by
          have := run_index_str (P := Try.prog) 9 (bs l) (2 * k) (by omega) (2 * (k : Int)) (by omega) w Try.underlying9
          rw [bl_bs] at this
          exact this
        have i2 : ∀ w, (Instr.index 9 (.string (bs l)) (.int .i64 (2 * (k : Int) + 1))).run Try.prog w = .ok (.int .u8 ((l.getD (2 * k + 1) 0).toNat : Int)) w := fun w => by
          have := run_index_str (P := Try.prog) 9 (bs l) (2 * k + 1) (by omega) (2 * (k : Int) + 1) (by omega) w Try.underlying9
          rw [bl_bs] at this
          exact this
        have e1 : IntKind.i64.wrap (2 * (k : Int)) = 2 * (k : Int) := by simp [IntKind.wrap, IntKind.signed, IntKind.bits]; omega
        have e2 : IntKind.i64.wrap (2 * (k : Int) + 1) = 2 * (k : Int) + 1 := by simp [IntKind.wrap, IntKind.signed, IntKind.bits]; omega
        have HP := hid (show pairOk l k = (decide (0 ≤ dval (l.getD (2 * k) 0)) && decide (0 ≤ dval (l.getD (2 * k + 1) 0))) from rfl)
        have HPB := hid (show pairB l k = UInt8.ofNat (16 * (dval (l.getD (2 * k) 0)).toNat + (dval (l.getD (2 * k + 1) 0)).toNat) from rfl)
        have lo0 := dval_lo (l.getD (2 * k) 0)
        have hi0 := dval_hi (l.getD (2 * k) 0)
        have lo1 := dval_lo (l.getD (2 * k + 1) 0)
        have hi1 := dval_hi (l.getD (2 * k + 1) 0)
        generalize l.getD (2 * k) 0 = x0 at *
        generalize l.getD (2 * k + 1) 0 = x1 at *
        go_wp2_with fail
        (refine' wp_region_head 13 0 [_, _, _, _, _, _, _, _, _, _, _, _, _] rfl (by kernel_rfl) (by kernel_rfl) ?hreg1; case' hreg1 => simp only [List.take_succ_cons, List.take_zero, List.zip_cons_cons, List.zip_nil_right, List.drop_succ_cons, List.drop_zero, List.drop_nil])
        (iterate 4 (refine' head_val ?_ ?_ ?_ ?_; rotate_left; (· rfl); (· first | exact fun _ _ _ => trivial | (intro t ht w; cases ht; simp [upE])); (· intro w' hw' _; go_simp; with_reducible rfl); simp only [Act.put, List.setIfInBounds_toArray, List.set_cons_zero, List.set_cons_succ]))
        (refine' head_call ?cw2 ?ce2 ?cr2 ?cc2 ?ch2; (case' cw2 => rfl); (case' ce2 => (first | exact fun _ _ _ => trivial | (intro t ht w; cases ht; simp [upE]))); (case' cr2 => (intro w'; go_simp; first | exact ⟨rfl, rfl⟩ | with_reducible rfl)); (case' cc2 => (intro w' hw' _; exact idDigit x0 w')); (case' ch2 => (try simp only [Act.put, List.setIfInBounds_toArray, List.set_cons_zero, List.set_cons_succ])))
        (iterate 5 (refine' head_val ?_ ?_ ?_ ?_; rotate_left; (· rfl); (· first | exact fun _ _ _ => trivial | (intro t ht w; cases ht; simp [upE])); (· intro w' hw' _; go_simp; with_reducible rfl); simp only [Act.put, List.setIfInBounds_toArray, List.set_cons_zero, List.set_cons_succ]))
        (refine' head_call ?cw3 ?ce3 ?cr3 ?cc3 ?ch3; (case' cw3 => rfl); (case' ce3 => (first | exact fun _ _ _ => trivial | (intro t ht w; cases ht; simp [upE]))); (case' cr3 => (intro w'; go_simp; first | exact ⟨rfl, rfl⟩ | with_reducible rfl)); (case' cc3 => (intro w' hw' _; exact idDigit x1 w')); (case' ch3 => (try simp only [Act.put, List.setIfInBounds_toArray, List.set_cons_zero, List.set_cons_succ])))
        (iterate 2 (refine' head_val ?_ ?_ ?_ ?_; rotate_left; (· rfl); (· first | exact fun _ _ _ => trivial | (intro t ht w; cases ht; simp [upE])); (· intro w' hw' _; go_simp; with_reducible rfl); simp only [Act.put, List.setIfInBounds_toArray, List.set_cons_zero, List.set_cons_succ]))
        refine head_nil ?_
        intro w3 hw3 _
        refine wpList_nil ?_
        have H4 := hid (grow_block h4.out hw3)
        have H2 := hid (grow_block h2.out hw3)
        have HB3 := hid (hB.out.trans hw3)
        clear i1 i2 e1 e2 h4 h2 hB hw3
        generalize dval x0 = d0 at *
        generalize dval x1 = d1 at *
        by_cases hd0 : d0 < 0
        · have tt : decide (d0 < 0) = true := by simp; omega
          have HBAD := hid (parse_bad l k hlt (by rw [HP.out]; simp; omega))
          go_wp2_with (first | (refine wpList_valop (.build 23 #[]) rfl (v := .agg (u8s (zero8 32)).toArray) (w' := w3) rfl (by kernel_rfl) ?_) | (refine store_block 23 (.tmp 2) (.tmp 32) w.heap.size 0 (u8s (zero8 32)) (u8s (zero8 32)) (u8s (zero8 32)) 23 rfl rfl rfl rfl rfl H2.out (by rw [szId, u8s_length]; rfl) ?c1A (u8s_one _) ?c2A ?_))
          intro W6 hw6 _ hb6
          have HB6 := hid (hb6 _ _ HB3.out (Nat.le_refl _))
          have HR6 := hid hw6
          clear hw6 hb6
          go_wp2_with fail
          refine bodyPost_ret (results_row_tmp rfl _ _ w.heap.size 23 _ (0, 0) _ rfl HR6.out Try.underlying23 rfl (by rw [szId]; simp [u8s_length, zero8])) rfl ⟨?_, HB6.out⟩
          rw [parse, parseErr, HBAD.out]
          rfl
        · by_cases hd1 : d1 < 0
          · have tt : decide (d0 < 0) = false := by simp; omega
            have tt1 : decide (d1 < 0) = true := by simp; omega
            have HBAD := hid (parse_bad l k hlt (by rw [HP.out]; simp; omega))
            go_wp2_with (first | (refine wpList_valop (.build 23 #[]) rfl (v := .agg (u8s (zero8 32)).toArray) (w' := w3) rfl (by kernel_rfl) ?_) | (refine store_block 23 (.tmp 2) (.tmp 32) w.heap.size 0 (u8s (zero8 32)) (u8s (zero8 32)) (u8s (zero8 32)) 23 rfl rfl rfl rfl rfl H2.out (by rw [szId, u8s_length]; rfl) ?c1B (u8s_one _) ?c2B ?_))
            intro W6 hw6 _ hb6
            have HB6 := hid (hb6 _ _ HB3.out (Nat.le_refl _))
            have HR6 := hid hw6
            clear hw6 hb6
            go_wp2_with fail
            refine bodyPost_ret (results_row_tmp rfl _ _ w.heap.size 23 _ (0, 0) _ rfl HR6.out Try.underlying23 rfl (by rw [szId]; simp [u8s_length, zero8])) rfl ⟨?_, HB6.out⟩
            rw [parse, parseErr, HBAD.out]
            rfl
          · have tt : decide (d0 < 0) = false := by simp; omega
            have tt1 : decide (d1 < 0) = false := by simp; omega
            obtain ⟨m0, rfl⟩ : ∃ m : Nat, d0 = m := ⟨d0.toNat, by omega⟩
            obtain ⟨m1, rfl⟩ : ∃ m : Nat, d1 = m := ⟨d1.toNat, by omega⟩
            have HOK := hid (show (List.range (k + 1)).all (pairOk l) = true by
              rw [List.range_succ, List.all_append, hA.out]
              simp [HP.out])
            have q1 := or16 m0 m1 (by omega) (by omega)
            have q2 : IntKind.i64.wrap ((m0 : Int) * 16) = (m0 : Int) * 16 := by simp [IntKind.wrap, IntKind.signed, IntKind.bits]; omega
            have q3 : IntKind.u8.wrap ((16 * m0 + m1 : Nat) : Int) = ((16 * m0 + m1 : Nat) : Int) := by simp [IntKind.wrap, IntKind.signed, IntKind.bits]; omega
            have hpv : ((pairB l k).toNat : Int) = ((16 * m0 + m1 : Nat) : Int) := by
              rw [HPB.out]
              have : (16 * (m0 : Int).toNat + (m1 : Int).toNat) < 256 := by omega
              rw [UInt8.toNat_ofNat']
              omega
            have hset := parse_set l k hlt
            rw [hpv] at hset
            have HSET := hid hset
            have hll : (parseTo l k ++ zero8 (32 - k)).length = 32 := by rw [List.length_append, parseTo_length]; simp [zero8]; omega
            have c4 : w3.cell? ⟨g4, k, none⟩ = some (.int .u8 (b8 (parseTo l k ++ zero8 (32 - k)) k)) := cell_u8 H4.out (grow_refl w3) k (by omega)
            have f4 : w3.frozen? ⟨g4, k, none⟩ = false := frozen_of_row w3 _ k _ _ H4.out
            clear hpv hset hll
            generalize 16 * m0 + m1 = mm at *
            go_wp2
            go_roundg (33 - (k + 1))
            case rel =>
              refine ⟨k + 1, by omega, rfl, by go_num, HOK, ?_, ?_, hid (HB3.out.setCell (Nat.le_of_lt HWL.out) _)⟩
              · have h2 := heap_setCell_same w3 g4 k _ _ (.int .u8 (mm : Int)) H4.out
                rw [HSET.out] at h2
                exact h2
              · have := HWL.out
                exact hid ((heap_setCell_other _ _ _ _ (by simp; omega)).trans H2.out)
            case measure => omega
      · obtain rfl : k = 32 := by omega
        have HOK := hid (show parseOk l = true by rw [parseOk, hA.out, HE.out]; rfl)
        have hfl := parseTo_length l 32
        have hFA := h4.out
        rw [show zero8 (32 - 32) = [] from rfl, List.append_nil] at hFA
        have HFA := hid hFA
        clear hFA
        go_wp2_with (first | (refine wpList_load_agg rfl 23 (.tmp 4) rfl ⟨g4, 0, none⟩ rfl (u8s (parseTo l 32)) _ (cells_block (tl := []) (by rw [List.append_nil]; exact HFA.out)) Try.underlying23 rfl (by rw [szId, u8s_length, hfl]) ?_) | (refine store_block 23 (.tmp 2) (.tmp 41) w.heap.size 0 (u8s (parseTo l 32)) (u8s (zero8 32)) (u8s (parseTo l 32)) 23 rfl rfl rfl rfl rfl h2.out (by rw [szId, u8s_length, hfl]) ?c1D (u8s_one _) ?c2D ?_))
        case c1D => simp [u8s_length, zero8, hfl]
        case c2D => simp [u8s_length, hfl, zero8]
        intro W6 hw6 _ hb6
        have HB6 := hid (hb6 _ _ hB.out (Nat.le_refl _))
        have HR6 := hid hw6
        clear hw6 hb6
        go_wp2_with fail
        refine bodyPost_ret (results_row_tmp rfl _ _ w.heap.size 23 _ (0, 0) _ rfl HR6.out Try.underlying23 rfl (by rw [szId]; simp [u8s_length, hfl])) rfl ⟨?_, HB6.out⟩
        rw [parse, parseErr, HOK.out]
        rfl
  · have hn64 : ((l.length : Int) != 64) = true := by simp; omega
    have HBAD := hid (show parseOk l = false by rw [parseOk]; simp [h64])
    go_wp2_with (first | (refine wpList_valop (.build 23 #[]) rfl (v := .agg (u8s (zero8 32)).toArray) (w' := W1) rfl (by kernel_rfl) ?_) | (refine store_block 23 (.tmp 2) (.tmp 11) w.heap.size 0 (u8s (zero8 32)) (u8s (zero8 32)) (u8s (zero8 32)) 23 rfl rfl rfl rfl rfl HG2.out (by rw [szId, u8s_length]; rfl) ?c1C (u8s_one _) ?c2C ?_))
    case c1C => simp [u8s_length, zero8]
    case c2C => simp [u8s_length, zero8]
    intro W6 hw6 _ hb6
    have HB6 := hid (hb6 _ _ HB1.out (Nat.le_refl _))
    have HR6 := hid hw6
    clear hw6 hb6
    go_wp2_with fail
    refine bodyPost_ret (results_row_tmp rfl _ _ w.heap.size 23 _ (0, 0) _ rfl HR6.out Try.underlying23 rfl (by rw [szId]; simp [u8s_length, zero8])) rfl ⟨?_, HB6.out⟩
    rw [parse, parseErr, HBAD.out]
    rfl
end Go.Proofs.Ytkibibgbmkejjaa
