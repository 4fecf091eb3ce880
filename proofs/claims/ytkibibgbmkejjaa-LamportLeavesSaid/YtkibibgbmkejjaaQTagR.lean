/- tag.Pair, tag.Chain, their references: contracts. -/
import Derived.Test.YtkibibgbmkejjaaQNum
import Derived.Test.YtkibibgbmkejjaaQId1
set_option linter.unusedSimpArgs false
set_option linter.unusedVariables false
namespace Go.Proofs.Ytkibibgbmkejjaa
open Go.RowKit
open Go.Qk hiding rotr b4
set_option maxHeartbeats 1000000
set_option maxRecDepth 100000
/-- A name that is cut, if it is too long. -/
def cutName (name : ByteArray) : ByteArray := name.extract 0 (min name.size 255)
theorem cutName_size (name : ByteArray) : (cutName name).size ≤ 255 := by unfold cutName; rw [ByteArray.size_extract]; omega
theorem cutName_short (name : ByteArray) (h : name.size ≤ 255) : cutName name = name := by
  unfold cutName
  rw [Nat.min_eq_left h]
  exact ByteArray.extract_zero_size
theorem tagSumF (name : ByteArray) (A : Option Addr) (n c : Nat) (xs : List ByteArray) (w : World) (hx : StrRow w A xs) (hn : xs.length = n) (hsz : name.size ≤ 9223372036854775807) (hlen : (textOf (cutName name) xs).length ≤ 140737488355328) :
    Calls Try.prog 110 #[.string name, .slice A n c] w fun e w' => e = .returned (idV (tagSum (cutName name) xs)) ∧ Below w.heap.size w w' := by
  have HX := hid hx
  have HC := hid (cutName_size name)
  have HL := hid hlen
  have HTL := hid (tagSum_length (cutName name) xs)
  have hcut : cutName name = name.extract 0 (min name.size 255) := rfl
  have hmn : (min (name.size : Int) 255) = ((min name.size 255 : Nat) : Int) := by omega
  have hm1 : min name.size 255 ≤ name.size := Nat.min_le_left _ _
  generalize min name.size 255 = m at *
  generalize cutName name = cn at *
  have HCUT := hid hcut
  clear hx hcut hlen
  go_enter Try.func110, Try.ntmps110
  apply wp_seq_k; intro _ _; apply wp_region_lit
  refine op_alloc rfl rfl ?_
  intro gr W hgl hgu hb hr
  have HR := hid hr; have HB := hid hb; have HRL := hid hgl; have HRU := hid hgu
  clear hr hb hgl hgu
  try simp only [Act.put, List.setIfInBounds_toArray, List.set_cons_zero, List.set_cons_succ]
  replace HX := hid (HX.out.grow HB.out)
  refine wpList_nil ?_
  go_wp2_with fail
  rw [← HCUT.out]
  refine (tagOf cn A n c xs _ HX.out hn HC.out HL.out).mono ?_
  rintro e w1 ⟨rfl, hb⟩
  replace HR := hid (grow_block HR.out hb)
  replace HB := hid (Grow.trans HB.out hb)
  replace HX := hid (HX.out.grow hb)
  clear hb
  go_wp2_with (first |  (refine op_allocstore (l := tagSum cn xs) rfl rfl rfl rfl rfl rfl (fun _ => rfl) ⟨fun _ => rfl, HTL.out⟩ ?_))
  intro g5 w2 hgl hgu hb hr
  have H5L := hid (Nat.le_trans HB.out.size hgl)
  replace HR := hid (grow_block HR.out hb)
  replace HB := hid (Grow.trans HB.out hb)
  replace HX := hid (HX.out.grow hb)
  have H5 := hid hr; have H5U := hid hgu
  clear hr hgl hgu hb
  try simp only [Act.put, List.setIfInBounds_toArray, List.set_cons_zero, List.set_cons_succ]
  go_wp2_with (first | (refine op_loadId rfl rfl rfl H5.out (HTL.out) ?_) |  (refine op_buildId rfl rfl ?_) | (refine op_storeId (l := tagSum cn xs) rfl rfl rfl rfl rfl HR.out (by rfl) (HTL.out) ?_))
  intro wz hz _ hbz
  have HZ := hid hz; have HBZ := hid (hbz _ _ HB.out HRL.out)
  clear hz hbz
  go_wp2_with fail
  refine bodyPost_ret (ret_id rfl rfl HZ.out (HTL.out)) rfl ⟨?_, HBZ.out⟩
  rfl
/-- The sum of two. -/
def pairOf (name : ByteArray) (a b : List UInt8) : List UInt8 := tagSum (cutName name) [bs a, bs b]
theorem pairOf_length (name : ByteArray) (a b : List UInt8) : (pairOf name a b).length = 32 := tagSum_length _ _
theorem textOf_two (name : ByteArray) (a b : List UInt8) (hn : name.size ≤ 255) (ha : a.length ≤ 1000000) (hb : b.length ≤ 1000000) : (textOf name [bs a, bs b]).length ≤ 140737488355328 := by
  simp [textOf, partsOf, be_length, bl_length, bs_size]
  omega
theorem tagPair (name : ByteArray) (a b : List UInt8) (ha : a.length = 32) (hb : b.length = 32) (hsz : name.size ≤ 9223372036854775807) (w : World) :
    Calls Try.prog 43 #[.string name, idV a, idV b] w fun e w' => e = .returned (idV (pairOf name a b)) ∧ Below w.heap.size w w' := by
  have HA := hid ha
  have HBL := hid hb
  have HTL := hid (pairOf_length name a b)
  have HTX := hid (textOf_two (cutName name) a b (cutName_size name) (by omega) (by omega))
  clear ha hb
  go_enter Try.func43, Try.ntmps43
  have HB := hid (grow_refl w)
  apply wp_seq_k; intro _ _; apply wp_region_lit
  refine op_box (l := a) rfl rfl rfl ?_
  intro gx w1 hgl hgu hb hr
  have XL := hid (Nat.le_trans HB.out.size hgl)
  replace HB := hid (Grow.trans HB.out hb)
  have X := hid hr; have XU := hid hgu
  clear hr hgl hgu hb
  try simp only [Act.put, List.setIfInBounds_toArray, List.set_cons_zero, List.set_cons_succ]
  refine op_box (l := b) rfl rfl rfl ?_
  intro gy w2 hgl hgu hb hr
  have YL := hid (Nat.le_trans HB.out.size hgl)
  replace HB := hid (Grow.trans HB.out hb)
  replace X := hid (grow_block X.out hb)
  have Y := hid hr; have YU := hid hgu
  clear hr hgl hgu hb
  try simp only [Act.put, List.setIfInBounds_toArray, List.set_cons_zero, List.set_cons_succ]
  refine op_alloc rfl rfl ?_
  intro gr w3 hgl hgu hb hr
  have HRL := hid (Nat.le_trans HB.out.size hgl)
  replace HB := hid (Grow.trans HB.out hb)
  replace X := hid (grow_block X.out hb)
  replace Y := hid (grow_block Y.out hb)
  have HR := hid hr; have HRU := hid hgu
  clear hr hgl hgu hb
  try simp only [Act.put, List.setIfInBounds_toArray, List.set_cons_zero, List.set_cons_succ]
  refine wpList_nil ?_
  have hcx : ∀ w', Grow w3 w' → (convert 112 9 (.slice (some ⟨gx, 0, none⟩) 32 32)).run Try.prog w' = .ok (.string (bs a)) w' := fun w' h => run_strId (grow_block X.out h) HA.out
  have hcy : ∀ w', Grow w3 w' → (convert 112 9 (.slice (some ⟨gy, 0, none⟩) 32 32)).run Try.prog w' = .ok (.string (bs b)) w' := fun w' h => run_strId (grow_block Y.out h) HBL.out
  go_wp2_with fail
  (refine' wp_region_head 7 1 [_, _, _, _, _, _, _] rfl (by kernel_rfl) (by kernel_rfl) ?hreg1; case' hreg1 => simp only [List.take_succ_cons, List.take_zero, List.zip_cons_cons, List.zip_nil_right, List.drop_succ_cons, List.drop_zero, List.drop_nil])
  (iterate 5 (refine' head_val ?_ ?_ ?_ ?_; rotate_left; (· rfl); (· first | exact fun _ _ _ => trivial | (intro t ht w; cases ht; simp [upE])); (· intro w' hw' _; go_simp; with_reducible rfl); simp only [Act.put, List.setIfInBounds_toArray, List.set_cons_zero, List.set_cons_succ]))
  (refine' head_row [.string (bs a), .string (bs b)] 2 9 ?_ ?_ ?_; (· rfl); (· intro w; first | (go_simp; done) | (go_simp; first | with_reducible rfl | rfl)); intro g12; simp only [Act.put, List.setIfInBounds_toArray, List.set_cons_zero, List.set_cons_succ])
  (refine' head_call ?cw2 ?ce2 ?cr2 ?cc2 ?ch2; (case' cw2 => rfl); (case' ce2 => (first | exact fun _ _ _ => trivial | (intro t ht w; cases ht; simp [upE]))); (case' cr2 => (intro w'; go_simp; first | exact ⟨rfl, rfl⟩ | with_reducible rfl)); (case' cc2 => (intro w' hw' hE; exact tagSumF name _ _ _ [bs a, bs b] w' (strRow_cells (row_at (hE 12 (by decide))) (by simp)) rfl hsz HTX.out)); (case' ch2 => (try simp only [Act.put, List.setIfInBounds_toArray, List.set_cons_zero, List.set_cons_succ])))
  clear hcx hcy
  refine head_nil ?_
  intro w4 hb _
  replace HB := hid (Grow.trans HB.out hb)
  replace X := hid (grow_block X.out hb)
  replace Y := hid (grow_block Y.out hb)
  replace HR := hid (grow_block HR.out hb)
  clear hb
  go_wp2_with (first |  (refine op_buildId rfl rfl ?_) | (refine op_storeId (l := pairOf name a b) rfl rfl rfl rfl rfl HR.out (by rfl) (HTL.out) ?_))
  intro wz hz _ hbz
  have HZ := hid hz; have HBZ := hid (hbz _ _ HB.out HRL.out)
  clear hz hbz
  go_wp2_with fail
  refine bodyPost_ret (ret_id rfl rfl HZ.out (HTL.out)) rfl ⟨?_, HBZ.out⟩
  rfl
theorem refPair (name : ByteArray) (a b : List UInt8) (ha : a.length = 32) (hb : b.length = 32) (hsz : name.size ≤ 255) (w : World) :
    Calls Try.prog 44 #[.string name, idV a, idV b] w fun e w' => e = .returned (idV (pairOf name a b)) ∧ Below w.heap.size w w' := by
  have HA := hid ha
  have HBL := hid hb
  have HTL := hid (pairOf_length name a b)
  have HTX := hid (textOf_two name a b hsz (by omega) (by omega))
  have HE := hid (show pairOf name a b = tagSum name [bs a, bs b] by unfold pairOf; rw [cutName_short name hsz])
  clear ha hb
  rw [HE.out] at HTL ⊢
  go_enter Try.func44, Try.ntmps44
  have HB := hid (grow_refl w)
  apply wp_seq_k; intro _ _; apply wp_region_lit
  refine op_box (l := a) rfl rfl rfl ?_
  intro gx w1 hgl hgu hb hr
  have XL := hid (Nat.le_trans HB.out.size hgl)
  replace HB := hid (Grow.trans HB.out hb)
  have X := hid hr; have XU := hid hgu
  clear hr hgl hgu hb
  try simp only [Act.put, List.setIfInBounds_toArray, List.set_cons_zero, List.set_cons_succ]
  refine op_box (l := b) rfl rfl rfl ?_
  intro gy w2 hgl hgu hb hr
  have YL := hid (Nat.le_trans HB.out.size hgl)
  replace HB := hid (Grow.trans HB.out hb)
  replace X := hid (grow_block X.out hb)
  have Y := hid hr; have YU := hid hgu
  clear hr hgl hgu hb
  try simp only [Act.put, List.setIfInBounds_toArray, List.set_cons_zero, List.set_cons_succ]
  refine op_alloc rfl rfl ?_
  intro gr w3 hgl hgu hb hr
  have HRL := hid (Nat.le_trans HB.out.size hgl)
  replace HB := hid (Grow.trans HB.out hb)
  replace X := hid (grow_block X.out hb)
  replace Y := hid (grow_block Y.out hb)
  have HR := hid hr; have HRU := hid hgu
  clear hr hgl hgu hb
  try simp only [Act.put, List.setIfInBounds_toArray, List.set_cons_zero, List.set_cons_succ]
  refine wpList_nil ?_
  go_wp2_with fail
  (refine' wp_region_head 7 1 [_, _, _, _, _, _, _] rfl (by kernel_rfl) (by kernel_rfl) ?hreg3; case' hreg3 => simp only [List.take_succ_cons, List.take_zero, List.zip_cons_cons, List.zip_nil_right, List.drop_succ_cons, List.drop_zero, List.drop_nil])
  (refine' head_val ?_ ?_ ?_ ?_; rotate_left; (· rfl); (· first | exact fun _ _ _ => trivial | (intro t ht w; cases ht; simp [upE])); (· intro w' hw' _; go_simp; with_reducible rfl); simp only [Act.put, List.setIfInBounds_toArray, List.set_cons_zero, List.set_cons_succ])
  (refine' head_loadId (x := _) rfl ?_ rfl rfl X.out (HA.out) ?_; (first | exact fun _ _ _ => trivial | (intro t ht w; cases ht; simp [upE])); try simp only [Act.put, List.setIfInBounds_toArray, List.set_cons_zero, List.set_cons_succ])
  (refine' head_call ?cw4 ?ce4 ?cr4 ?cc4 ?ch4; (case' cw4 => rfl); (case' ce4 => (first | exact fun _ _ _ => trivial | (intro t ht w; cases ht; simp [upE]))); (case' cr4 => (intro w'; go_simp; first | exact ⟨rfl, rfl⟩ | with_reducible rfl)); (case' cc4 => (intro w' hw' _; exact ref3Bytes a HA.out w')); (case' ch4 => (try simp only [Act.put, List.setIfInBounds_toArray, List.set_cons_zero, List.set_cons_succ])))
  (refine' head_loadId (x := _) rfl ?_ rfl rfl Y.out (HBL.out) ?_; (first | exact fun _ _ _ => trivial | (intro t ht w; cases ht; simp [upE])); try simp only [Act.put, List.setIfInBounds_toArray, List.set_cons_zero, List.set_cons_succ])
  (refine' head_call ?cw5 ?ce5 ?cr5 ?cc5 ?ch5; (case' cw5 => rfl); (case' ce5 => (first | exact fun _ _ _ => trivial | (intro t ht w; cases ht; simp [upE]))); (case' cr5 => (intro w'; go_simp; first | exact ⟨rfl, rfl⟩ | with_reducible rfl)); (case' cc5 => (intro w' hw' _; exact ref3Bytes b HBL.out w')); (case' ch5 => (try simp only [Act.put, List.setIfInBounds_toArray, List.set_cons_zero, List.set_cons_succ])))
  (refine' head_row [.string (bs a), .string (bs b)] 2 9 ?_ ?_ ?_; (· rfl); (· intro w; first | (go_simp; done) | (go_simp; first | with_reducible rfl | rfl)); intro g12; simp only [Act.put, List.setIfInBounds_toArray, List.set_cons_zero, List.set_cons_succ])
  (refine' head_call ?cw6 ?ce6 ?cr6 ?cc6 ?ch6; (case' cw6 => rfl); (case' ce6 => (first | exact fun _ _ _ => trivial | (intro t ht w; cases ht; simp [upE]))); (case' cr6 => (intro w'; go_simp; first | exact ⟨rfl, rfl⟩ | with_reducible rfl)); (case' cc6 => (intro w' hw' hE; exact refOf name _ _ _ [bs a, bs b] w' (strRow_cells (row_at (hE 12 (by decide))) (by simp)) rfl hsz HTX.out)); (case' ch6 => (try simp only [Act.put, List.setIfInBounds_toArray, List.set_cons_zero, List.set_cons_succ])))
  refine head_nil ?_
  intro w4 hb _
  replace HB := hid (Grow.trans HB.out hb)
  replace X := hid (grow_block X.out hb)
  replace Y := hid (grow_block Y.out hb)
  replace HR := hid (grow_block HR.out hb)
  clear hb
  go_wp2_with (first |  (refine op_buildId rfl rfl ?_) | (refine op_storeId (l := tagSum name [bs a, bs b]) rfl rfl rfl rfl rfl HR.out (by rfl) (HTL.out) ?_))
  intro wz hz _ hbz
  have HZ := hid hz; have HBZ := hid (hbz _ _ HB.out HRL.out)
  clear hz hbz
  go_wp2_with fail
  refine bodyPost_ret (ret_id rfl rfl HZ.out (HTL.out)) rfl ⟨?_, HBZ.out⟩
  rfl
end Go.Proofs.Ytkibibgbmkejjaa
