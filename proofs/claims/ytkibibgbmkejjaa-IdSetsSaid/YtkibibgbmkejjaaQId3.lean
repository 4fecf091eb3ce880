import Derived.Test.YtkibibgbmkejjaaQId2
set_option linter.unusedSimpArgs false
set_option linter.unusedVariables false
namespace Go.Proofs.Ytkibibgbmkejjaa
open Go.RowKit
open Go.Qk
set_option maxHeartbeats 1000000
set_option maxRecDepth 100000
section
variable {P : Program} {ops : Array Oper} {W : World} {Qe : (Tmp → World → Prop) → Act → Prop}
/-- A row that is made amid a region. -/
def rowAt (cs : List Value) (n : Nat) (v : Value) (w' : World) : Prop := ∃ g, v = .slice (some ⟨g, 0, none⟩) n n ∧ ∀ j u, cs[j]? = some u → w'.cell? ((⟨g, 0, none⟩ : Addr).add j) = some u
theorem head_row {o : Oper} {r : List (Oper × (Value → World → Prop))} {E : Tmp → World → Prop} {a : Act} (cs : List Value) (n : Nat) (T : TypeId) (hwant : Region.wanted o (yielded ops a.tmps) = true)
    (hrun : ∀ w, (execOp a.eval o).run P w = .ok (.value (.slice (some ⟨w.heap.size, 0, none⟩) n n)) (w.alloc (.cells cs.toArray T)))
    (h : ∀ g, Head P ops W Qe r (upE E o.dst (rowAt cs n (.slice (some ⟨g, 0, none⟩) n n))) (a.put o.dst (.slice (some ⟨g, 0, none⟩) n n))) : Head P ops W Qe ((o, rowAt cs n) :: r) E a := by
  refine head_abs (V := rowAt cs n) hwant ?_ ?_ ?_
  · rintro v w1 w2 ⟨g, rfl, hc⟩ hg
    exact ⟨g, rfl, fun j u hj => grow_cell (hc j u hj) hg⟩
  · intro w1 hw1 _
    exact does_val (hrun w1) ⟨grow_alloc _ _, _, rfl, fun j u hj => cells_new w1 _ _ j u hj⟩
  · rintro v ⟨_, g, rfl, _⟩
    exact h g
theorem row_at {E : Tmp → World → Prop} {t : Tmp} {cs : List Value} {n g : Nat} {w : World} (h : upE E (some t) (rowAt cs n (.slice (some ⟨g, 0, none⟩) n n)) t w) :
    ∀ j u, cs[j]? = some u → w.cell? ((⟨g, 0, none⟩ : Addr).add j) = some u := by
  unfold upE at h
  rw [if_pos rfl] at h
  obtain ⟨g', hg, hc⟩ := h
  obtain rfl : g = g' := by injection hg with h1 h2 h3; injection h1 with h1; injection h1
  exact hc
end
theorem run_index_str8 {P : Program} (t : TypeId) (s : ByteArray) (k : Nat) (h : k < s.size) (i : Int) (hi : i = k) (w : World) (ht : P.underlying t = some .string) :
    (Instr.index t (.string s) (.int .u8 i)).run P w = .ok (.int .u8 (b8 (bl s) k)) w := by
  subst hi
  have h1 : (0 : Int) ≤ (k : Int) := by omega
  have h2 : (k : Int) < (s.size : Int) := by omega
  go_simp
  have e : (bl s).getD k 0 = s[k] := by
    simp [bl, List.getD_eq_getElem?_getD, List.getElem?_eq_getElem (show k < s.data.toList.length by rw [Array.length_toList]; exact h)]
    rfl
  simp only [b8, e]
/-- A digit, and bytes as digits. -/
def dig (n : Nat) : UInt8 := ([48, 49, 50, 51, 52, 53, 54, 55, 56, 57, 97, 98, 99, 100, 101, 102] : List UInt8).getD n 0
def hex1 (b : UInt8) : List UInt8 := [dig (b.toNat / 16), dig (b.toNat % 16)]
def hexOf (l : List UInt8) (k : Nat) : List UInt8 := (l.take k).flatMap hex1
theorem hexOf_succ (l : List UInt8) (k : Nat) (h : k < l.length) : hexOf l (k + 1) = hexOf l k ++ hex1 (l.getD k 0) := by
  unfold hexOf
  rw [List.take_succ_eq_append_getElem h, List.flatMap_append]
  simp [h]
theorem hexOf_length (l : List UInt8) (k : Nat) (h : k ≤ l.length) : (hexOf l k).length = 2 * k := by
  induction k with
  | zero => rfl
  | succ k ih => rw [hexOf_succ l k (by omega), List.length_append, ih (by omega)]; simp [hex1]; omega
theorem and15F : ∀ n : Fin 256, bits .and .u8 ((n.val : Nat) : Int) 15 = ((n.val % 16 : Nat) : Int) := by decide +kernel
theorem and15 (n : Nat) (h : n < 256) : bits .and .u8 (n : Int) 15 = ((n % 16 : Nat) : Int) := and15F ⟨n, h⟩
theorem idHex (l : List UInt8) (hl : l.length = 32) (w : World) :
    Calls Try.prog 20 #[idV l] w fun e w' => e = .returned (.string (bs (hexOf l 32))) ∧ Below w.heap.size w w' := by
  have hmk : ∀ w, (Instr.makeSlice 112 (.int .i64 0) (.int .i64 64)).run Try.prog w = .ok (.slice (some ⟨w.heap.size, 0, none⟩) 0 64) (w.alloc (.cells (Array.replicate 64 (.int .u8 0)) 5)) := fun _ => by kernel_rfl
  unfold idV
  go_enter Try.func20, Try.ntmps20
  go_upto_region 1 with (fail)
  have HG0 := hid (show (w.alloc (.cells (u8s l).toArray 23)).heap[w.heap.size]? = some (.cells (u8s l).toArray 23 (0, 0)) from heap_alloc_new _ _)
  have HB0 := hid (grow_alloc w (.cells (u8s l).toArray 23))
  have HL0 := hid (show (w.alloc (.cells (u8s l).toArray 23)).heap.size = w.heap.size + 1 by simp)
  generalize w.alloc (.cells (u8s l).toArray 23) = W at *
  generalize hz : Array.replicate 64 (Value.int .u8 0) = Z at *
  have HZ := hid hz
  clear hz
  go_upto_region 2 with (fail)
  have HG := hid (grow_block HG0.out (grow_alloc W (.cells Z 5)))
  go_wp2_with (refine wpList_load_agg rfl 23 (.tmp 1) rfl ⟨w.heap.size, 0, none⟩ rfl (u8s l) _ (cells_block (tl := []) (by rw [List.append_nil]; exact HG.out)) Try.underlying23 rfl (by rw [szId, u8s_length, hl]) ?_)
  go_loopg [3, 8] 33 (fun q v i wr => ∃ k : Nat, k ≤ 32 ∧ q = 33 - k ∧ i = .int .i64 k ∧ Hid (Buf 5 W.heap.size wr v (hexOf l k)) ∧ Hid (Below W.heap.size W wr) ∧ Hid (W.heap.size ≤ wr.heap.size))
  case atStart => exact ⟨0, by omega, rfl, rfl, hid (World.ownsRow_made _ Z 64 (Nat.le_refl _) (by decide) (by rw [← HZ.out]; simp)), hid ((Below.refl _ _).alloc (Nat.le_refl _) _), hid (by simp)⟩
  case round =>
    obtain ⟨k, hk, hq, rfl, hO, hB, hL⟩ := hrel
    clear hmk
    by_cases hlt : k < 32
    · have n0 : (0 : Int) ≤ (k : Int) := by omega
      have n1 : (k : Int) < 32 := by omega
      have hix : ∀ w, (Instr.index 23 (.agg (u8s l).toArray) (.int .i64 k)).run Try.prog w = .ok (.int .u8 (b8 l k)) w := fun w => run_index_arr 23 5 32 (u8s l) k _ _ rfl hlt (u8s_get l k (by omega)) w Try.underlying23 Try.underlying5 rfl (by kernel_rfl)
      have b0 := b8_lo l k
      have b1 := b8_hi l k
      have hx := (l.getD k 0).toNat_lt
      have i1 := fun w => run_index_str8 (P := Try.prog) 9 ⟨#[48, 49, 50, 51, 52, 53, 54, 55, 56, 57, 97, 98, 99, 100, 101, 102]⟩ ((l.getD k 0).toNat / 16) (by show _ < 16; omega) (b8 l k / 16) (by rw [b8]; omega) w Try.underlying9
      have i2 := fun w => run_index_str8 (P := Try.prog) 9 ⟨#[48, 49, 50, 51, 52, 53, 54, 55, 56, 57, 97, 98, 99, 100, 101, 102]⟩ ((l.getD k 0).toNat % 16) (by show _ < 16; omega) (bits .and .u8 (b8 l k) 15) (by rw [b8]; exact and15 _ hx) w Try.underlying9
      have HD := hid (show [Value.int .u8 (b8 (bl ⟨#[48, 49, 50, 51, 52, 53, 54, 55, 56, 57, 97, 98, 99, 100, 101, 102]⟩) ((l.getD k 0).toNat / 16)), .int .u8 (b8 (bl ⟨#[48, 49, 50, 51, 52, 53, 54, 55, 56, 57, 97, 98, 99, 100, 101, 102]⟩) ((l.getD k 0).toNat % 16))] = u8s (hex1 (l.getD k 0)) from rfl)
      have HT := hid (hexOf_succ l k (by omega))
      have HLN := hid (hexOf_length l k (by omega))
      clear hx
      generalize b8 l k = b at *
      generalize b8 (bl ⟨#[48, 49, 50, 51, 52, 53, 54, 55, 56, 57, 97, 98, 99, 100, 101, 102]⟩) ((l.getD k 0).toNat / 16) = d1 at *
      generalize b8 (bl ⟨#[48, 49, 50, 51, 52, 53, 54, 55, 56, 57, 97, 98, 99, 100, 101, 102]⟩) ((l.getD k 0).toNat % 16) = d2 at *
      go_wp2
      (refine' wp_region_head 8 2 [_, _, _, _, _, _, _, _] rfl (by kernel_rfl) (by kernel_rfl) ?hreg1; case' hreg1 => simp only [List.take_succ_cons, List.take_zero, List.zip_cons_cons, List.zip_nil_right, List.drop_succ_cons, List.drop_zero, List.drop_nil])
      (iterate 7 (refine' head_val ?_ ?_ ?_ ?_; rotate_left; (· rfl); (· first | exact fun _ _ _ => trivial | (intro t ht w; cases ht; simp [upE])); (· intro w' hw' _; go_simp; with_reducible rfl); simp only [Act.put, List.setIfInBounds_toArray, List.set_cons_zero, List.set_cons_succ]))
      refine head_row [.int .u8 d1, .int .u8 d2] 2 5 ?wa ?hr ?hh
      case wa => rfl
      case hr => intro w; go_simp
      intro g
      simp only [Act.put, List.setIfInBounds_toArray, List.set_cons_zero, List.set_cons_succ]
      refine head_nil ?_
      intro w4 hw4 hE
      have HC := hid (row_at (hE 18))
      have HO4 := hid (own_grow hO.out hw4)
      have HB4 := hid (below_grow hB.out hL.out hw4)
      have HL4 := hid (Nat.le_trans hL.out hw4.size)
      clear hE hw4 hix i1 i2 b0 b1
      go_wp2_with (at_builtin; refine app_cells (w0 := W) (B := W.heap.size) (.tmp 11) (.tmp 18) 112 5 (.int .u8 0) 1 1 _ (hexOf l k).length (u8s (hexOf l k)) [.int .u8 d1, .int .u8 d2] ⟨g, 0, none⟩ 2 2 rfl rfl Try.underlying112 infoU8 rfl (by decide) rfl rfl rfl HC.out ?h3 HO4.out HB4.out HL4.out ?h5 ?h7 ?_)
      case h3 => simp [Value.oneCell']
      case h5 => have := HLN.out; omega
      case h7 => have := HLN.out; omega
      intro v' w5 hown hb5 hs5
      have hown' : Buf 5 W.heap.size w5 v' (hexOf l (k + 1)) := by
        unfold Buf
        rw [HT.out, u8s_append, ← HD.out, List.length_append]
        exact hown
      have HO5 := hid hown'
      have HB5 := hid hb5
      have HS5 := hid hs5
      clear hown hown' hb5 hs5
      go_wp2
      go_roundg (33 - (k + 1))
      case rel => exact ⟨k + 1, by omega, rfl, by go_num, HO5, HB5, HS5⟩
      case measure => omega
    · obtain rfl : k = 32 := by omega
      have hcv := buf_str (P := Try.prog) 112 5 9 Try.underlying112 Try.underlying5 Try.underlying9 _ _ hO.out
      go_wp2
      go_ret
      refine ⟨rfl, HB0.out.trans hB.out⟩
end Go.Proofs.Ytkibibgbmkejjaa
