/- lamport.Sign, its reference: contracts. -/
import Derived.Test.YtkibibgbmkejjaaQLam4
import Derived.Test.YtkibibgbmkejjaaQRows2
import Derived.Test.YtkibibgbmkejjaaQId9
set_option linter.unusedSimpArgs false
set_option linter.unusedVariables false
namespace Go.Proofs.Ytkibibgbmkejjaa
open Go.RowKit
open Go.Qk hiding rotr b4
set_option maxHeartbeats 1000000
set_option maxRecDepth 100000
theorem bitI_range (l : List UInt8) (n : Nat) : 0 ≤ bitI l n ∧ bitI l n ≤ 1 := by
  unfold bitI
  omega
theorem refBit6 (l : List UInt8) (hl : l.length = 32) (n : Nat) (hn : n < 256) (w : World) :
    Calls Try.prog 117 #[idV l, .int .i64 n] w fun e w' => e = .returned (.int .i64 (bitI l n)) ∧ Below w.heap.size w w' := by
  have HL := hid hl
  clear hl
  go_enter Try.func117, Try.ntmps117
  have HB := hid (grow_refl w)
  apply wp_seq_k; intro _ _; apply wp_region_lit
  refine op_box (l := l) rfl rfl rfl ?_
  intro gx w1 hgl hgu hb hr
  have XL := hid (Nat.le_trans HB.out.size hgl)
  replace HB := hid (Grow.trans HB.out hb)
  have X := hid hr; have XU := hid hgu
  clear hr hgl hgu hb
  try simp only [Act.put, List.setIfInBounds_toArray, List.set_cons_zero, List.set_cons_succ]
  go_wp2_with (first | (refine op_loadId rfl rfl rfl X.out (HL.out) ?_) |  fail)
  refine (ref3Bytes l HL.out _).mono ?_
  rintro e w2 ⟨rfl, hb⟩
  replace HB := hid (Grow.trans HB.out hb)
  replace X := hid (grow_block X.out hb)
  clear hb
  go_wp2_with fail
  refine (refBit l n HL.out hn _).mono ?_
  rintro e w3 ⟨rfl, hb⟩
  replace HB := hid (Grow.trans HB.out hb)
  replace X := hid (grow_block X.out hb)
  clear hb
  go_wp2
  go_ret
  exact ⟨rfl, HB.out⟩
def shownG (seed : ByteArray) (leaf : Int) (sum : List UInt8) (b : Nat) : List UInt8 := secretOf seed leaf b (bitI sum b)
def hiddenG (seed : ByteArray) (leaf : Int) (sum : List UInt8) (b : Nat) : List UInt8 := publicOf (secretOf seed leaf b (1 - bitI sum b))
def rowOf (g : Nat → List UInt8) (n : Nat) : List (List UInt8) := (List.range n).map g
theorem rowOf_succ (g : Nat → List UInt8) (n : Nat) : rowOf g (n + 1) = rowOf g n ++ [g n] := by simp [rowOf, List.range_succ]
theorem rowOf_length (g : Nat → List UInt8) (n : Nat) : (rowOf g n).length = n := by simp [rowOf]
theorem rowOf_32 (g : Nat → List UInt8) (hg : ∀ b, (g b).length = 32) (n : Nat) : ∀ s ∈ rowOf g n, s.length = 32 := by
  intro s hs
  obtain ⟨b, _, rfl⟩ := List.mem_map.1 hs
  exact hg b
theorem shownG_length (seed : ByteArray) (leaf : Int) (sum : List UInt8) (b : Nat) : (shownG seed leaf sum b).length = 32 := secretOf_length _ _ _ _
theorem hiddenG_length (seed : ByteArray) (leaf : Int) (sum : List UInt8) (b : Nat) : (hiddenG seed leaf sum b).length = 32 := publicOf_length _
def RetSign (B : Nat) (w : World) (xs ys : List (List UInt8)) (err : List Value) (e : Ending) (w' : World) : Prop := ∃ v u, e = .returned (.tuple (v :: u :: err).toArray) ∧ OwnIds 23 B w' v xs ∧ OwnIds 23 B w' u ys ∧ Below w.heap.size w w'
theorem lamSign (seed : ByteArray) (leaf : Int) (n : Nat) (sum : List UInt8) (hsum : sum.length = 32) (hs : seed.size ≤ 1000000) (hl : leaf ≤ 9223372036854775807) (h0 : 0 ≤ leaf) (hr : rightB (n : Int) = true) (hn : n ≤ 256) (w : World) :
    Calls Try.prog 60 #[.string seed, .int .i64 leaf, .int .i64 n, idV sum] w (RetSign w.heap.size w (rowOf (shownG seed leaf sum) n) (rowOf (hiddenG seed leaf sum) n) [.int .i64 0]) := by
  have HL := hid hl
  have HS := hid hsum
  have HRR := hid hr
  have t1 : decide (leaf < 0) = false := by simp; omega
  clear hl hsum hr
  go_enter Try.func60, Try.ntmps60
  have HB := hid (grow_refl w)
  apply wp_seq_k; intro _ _; apply wp_region_lit
  refine op_box (l := sum) rfl rfl rfl ?_
  intro g7 w1 hgl hgu hb hr
  have XL := hid (Nat.le_trans HB.out.size hgl)
  replace HB := hid (Grow.trans HB.out hb)
  have X := hid hr; have XU := hid hgu
  clear hr hgl hgu hb
  try simp only [Act.put, List.setIfInBounds_toArray, List.set_cons_zero, List.set_cons_succ]
  go_wp2_with fail
  refine (lamRight n _).mono ?_
  rintro e w2 ⟨rfl, hb⟩
  replace HB := hid (Grow.trans HB.out hb)
  replace X := hid (grow_block X.out hb)
  clear hb
  rw [HRR.out]
  go_wp2_with fail
  clear t1
  have HT := hid (twain_nil (.slice none 0 0))
  have HO := hid (show OwnIds 23 w2.heap.size w2 (.slice none 0 0) [] from ⟨World.ownsRow_nil _ _ _ _, fun _ h => by cases h⟩)
  go_loopg [8, 9, 21] (n + 1) (fun q v u i wr => ∃ k : Nat, k ≤ n ∧ q = n + 1 - k ∧ i = .int .i64 k ∧ Hid (OwnIds 23 w2.heap.size wr v (rowOf (shownG seed leaf sum) k)) ∧ Hid (OwnIds 23 w2.heap.size wr u (rowOf (hiddenG seed leaf sum) k)) ∧ Hid (Twain v u) ∧ Hid (Grow w2 wr))
  case atStart => exact ⟨0, by omega, rfl, rfl, HO, HO, HT, hid (grow_refl _)⟩
  case round =>
    clear HO HT
    obtain ⟨k, hk, hq, rfl, HO, HU, HT, HG⟩ := hrel
    by_cases hlt : k < n
    · have k0 : (0 : Int) ≤ (k : Int) := by omega
      have k1 : (k : Int) < (n : Int) := by omega
      have HX := hid (grow_block X.out HG.out)
      have HN1 := hid (rowOf_succ (shownG seed leaf sum) k)
      have HN2 := hid (rowOf_succ (hiddenG seed leaf sum) k)
      have HE1 := hid (show shownG seed leaf sum k = secretOf seed leaf k (bitI sum k) from rfl)
      have HE2 := hid (show hiddenG seed leaf sum k = publicOf (secretOf seed leaf k (1 - bitI sum k)) from rfl)
      obtain ⟨b0, b1⟩ := bitI_range sum k
      go_wp2_with (refine op_loadId rfl rfl rfl HX.out HS.out ?_)
      refine (idBit sum HS.out k (by omega) _).mono ?_
      rintro e w3 ⟨rfl, hb⟩
      replace HO := hid (HO.out.grow hb)
      replace HU := hid (HU.out.grow hb)
      replace HG := hid (Grow.trans HG.out hb)
      clear hb HX
      generalize bitI sum k = bt at *
      go_wp2_with fail
      refine (lamSecret seed leaf k bt hs HL.out _).mono ?_
      rintro e w4 ⟨rfl, hb⟩
      rw [← HE1.out]
      replace HO := hid (HO.out.grow hb)
      replace HU := hid (HU.out.grow hb)
      replace HG := hid (Grow.trans HG.out hb)
      clear hb
      go_wp2_with (refine op_appIds1T (w0 := w2) (l1 := shownG seed leaf sum k) rfl rfl rfl rfl rfl rfl (fun _ => rfl) (fun _ => rfl) (shownG_length _ _ _ _) HO.out HU.out HT.out HG.out HG.out.size (by rw [rowOf_length]; omega) ?_)
      intro x5 v5 w5 ho hu ht hb
      rw [← HN1.out] at ho
      clear HO HU HT HG
      have HO := hid ho
      have HU := hid hu
      have HT := hid ht
      have HG := hid hb
      clear ho hu ht hb
      go_wp2_with fail
      refine (lamSecret seed leaf k (1 - bt) hs HL.out _).mono ?_
      rintro e w6 ⟨rfl, hb⟩
      replace HO := hid (HO.out.grow hb)
      replace HU := hid (HU.out.grow hb)
      replace HG := hid (Grow.trans HG.out hb)
      clear hb
      go_wp2_with fail
      refine (lamPublic (secretOf seed leaf k (1 - bt)) (secretOf_length _ _ _ _) _).mono ?_
      rintro e w7 ⟨rfl, hb⟩
      rw [← HE2.out]
      replace HO := hid (HO.out.grow hb)
      replace HU := hid (HU.out.grow hb)
      replace HG := hid (Grow.trans HG.out hb)
      clear hb
      go_wp2_with (refine op_appIds1T (w0 := w2) (l1 := hiddenG seed leaf sum k) rfl rfl rfl rfl rfl rfl (fun _ => rfl) (fun _ => rfl) (hiddenG_length _ _ _ _) HU.out HO.out HT.out.symm HG.out HG.out.size (by rw [rowOf_length]; omega) ?_)
      intro x8 v8 w8 hu ho ht hb
      rw [← HN2.out] at hu
      clear HO HU HT HG
      have HO := hid ho
      have HU := hid hu
      have HT := hid ht.symm
      have HG := hid hb
      clear ho hu ht hb
      go_wp2
      go_roundg (n + 1 - (k + 1))
      case rel => exact ⟨k + 1, by omega, rfl, by go_num, HO, HU, HT, HG⟩
      case measure => omega
    · obtain rfl : k = n := by omega
      go_wp2_with fail
      go_ret3
      exact ⟨_, _, rfl, HO.out.base HB.out.size, HU.out.base HB.out.size, HB.out.trans HG.out⟩
theorem lamSign_bad (seed : ByteArray) (leaf bits : Int) (sum : List UInt8) (hsum : sum.length = 32) (hr : rightB bits = false ∨ leaf < 0) (w : World) :
    Calls Try.prog 60 #[.string seed, .int .i64 leaf, .int .i64 bits, idV sum] w fun e w' => e = .returned (.tuple #[.slice none 0 0, .slice none 0 0, .int .i64 1]) ∧ Below w.heap.size w w' := by
  cases hb : rightB bits with
  | false =>
    have HRR := hid hb
    clear hb hr
    go_enter Try.func60, Try.ntmps60
    have HB := hid (grow_refl w)
    apply wp_seq_k; intro _ _; apply wp_region_lit
    refine op_box (l := sum) rfl rfl rfl ?_
    intro g7 w1 hgl hgu hb hr
    have XL := hid (Nat.le_trans HB.out.size hgl)
    replace HB := hid (Grow.trans HB.out hb)
    have X := hid hr; have XU := hid hgu
    clear hr hgl hgu hb
    try simp only [Act.put, List.setIfInBounds_toArray, List.set_cons_zero, List.set_cons_succ]
    go_wp2_with fail
    refine (lamRight bits _).mono ?_
    rintro e w2 ⟨rfl, hb⟩
    replace HB := hid (Grow.trans HB.out hb)
    replace X := hid (grow_block X.out hb)
    clear hb
    rw [HRR.out]
    go_wp2_with fail
    go_ret3
    exact ⟨rfl, HB.out⟩
  | true =>
    have HRR := hid hb
    have t1 : leaf < 0 := by rcases hr with h | h; rw [hb] at h; cases h; exact h
    clear hb hr
    go_enter Try.func60, Try.ntmps60
    have HB := hid (grow_refl w)
    apply wp_seq_k; intro _ _; apply wp_region_lit
    refine op_box (l := sum) rfl rfl rfl ?_
    intro g7 w3 hgl hgu hb hr
    have XL := hid (Nat.le_trans HB.out.size hgl)
    replace HB := hid (Grow.trans HB.out hb)
    have X := hid hr; have XU := hid hgu
    clear hr hgl hgu hb
    try simp only [Act.put, List.setIfInBounds_toArray, List.set_cons_zero, List.set_cons_succ]
    go_wp2_with fail
    refine (lamRight bits _).mono ?_
    rintro e w4 ⟨rfl, hb⟩
    replace HB := hid (Grow.trans HB.out hb)
    replace X := hid (grow_block X.out hb)
    clear hb
    rw [HRR.out]
    go_wp2_with fail
    go_ret3
    exact ⟨rfl, HB.out⟩
theorem own_empty (w : World) (B : Nat) (hB : B ≤ w.heap.size) (W : World) (h : W.heap[w.heap.size]? = some (.cells #[] 23 (0, 0))) : OwnIds 23 B W (.slice (some ⟨w.heap.size, 0, none⟩) 0 0) [] :=
  ⟨⟨rfl, .inr ⟨w.heap.size, 0, #[], rfl, hB, h, Nat.le_refl _, by simp [maxLen], rfl, rfl⟩⟩, fun _ h => by cases h⟩
theorem refSign (seed : ByteArray) (leaf : Int) (n : Nat) (sum : List UInt8) (hsum : sum.length = 32) (hs : seed.size ≤ 1000000) (hn : n ≤ 256) (w : World) :
    Calls Try.prog 61 #[.string seed, .int .i64 leaf, .int .i64 n, idV sum] w (RetSign w.heap.size w (rowOf (shownG seed leaf sum) n) (rowOf (hiddenG seed leaf sum) n) []) := by
  have HS := hid hsum
  clear hsum
  go_enter Try.func61, Try.ntmps61
  have HB := hid (grow_refl w)
  apply wp_seq_k; intro _ _; apply wp_region_lit
  refine op_box (l := sum) rfl rfl rfl ?_
  intro g7 w1 hgl hgu hb hr
  have XL := hid (Nat.le_trans HB.out.size hgl)
  replace HB := hid (Grow.trans HB.out hb)
  have X := hid hr; have XU := hid hgu
  clear hr hgl hgu hb
  try simp only [Act.put, List.setIfInBounds_toArray, List.set_cons_zero, List.set_cons_succ]
  go_wp2_with fail
  have HT := hid (show Twain (.slice (some ⟨w1.heap.size, 0, none⟩) 0 0) (.slice (some ⟨w1.heap.size + 1, 0, none⟩) 0 0) from fun k h1 h2 => by simp [Value.ownBlock] at h1 h2; omega)
  have HO := hid (own_empty w1 w1.heap.size (Nat.le_refl _) ((w1.alloc (.cells #[] 23)).alloc (.cells #[] 23)) (heap_alloc2_old _ _ _))
  have HU := hid (own_empty (w1.alloc (.cells #[] 23)) w1.heap.size (by simp) ((w1.alloc (.cells #[] 23)).alloc (.cells #[] 23)) (heap_alloc_new _ _))
  have HG := hid (show Grow w1 ((w1.alloc (.cells #[] 23)).alloc (.cells #[] 23)) from ((grow_refl _).alloc' _).alloc' _)
  go_loopg [10, 11, 12] (n + 1) (fun q v u i wr => ∃ k : Nat, k ≤ n ∧ q = n + 1 - k ∧ i = .int .i64 k ∧ Hid (OwnIds 23 w1.heap.size wr v (rowOf (shownG seed leaf sum) k)) ∧ Hid (OwnIds 23 w1.heap.size wr u (rowOf (hiddenG seed leaf sum) k)) ∧ Hid (Twain v u) ∧ Hid (Grow w1 wr))
  case atStart => exact ⟨0, by omega, rfl, rfl, HO, hid (by have h := HU.out; simp only [World.size_alloc] at h; simpa [rowOf] using h), HT, HG⟩
  case round =>
    clear HO HT HU HG
    obtain ⟨k, hk, hq, rfl, HO, HU, HT, HG⟩ := hrel
    by_cases hlt : k < n
    · have k0 : (0 : Int) ≤ (k : Int) := by omega
      have k1 : (k : Int) < (n : Int) := by omega
      have HX := hid (grow_block X.out HG.out)
      have HN1 := hid (rowOf_succ (shownG seed leaf sum) k)
      have HN2 := hid (rowOf_succ (hiddenG seed leaf sum) k)
      have HE1 := hid (show shownG seed leaf sum k = secretOf seed leaf k (bitI sum k) from rfl)
      have HE2 := hid (show hiddenG seed leaf sum k = publicOf (secretOf seed leaf k (1 - bitI sum k)) from rfl)
      obtain ⟨b0, b1⟩ := bitI_range sum k
      have HBIT := hid (fun w => refBit6 sum HS.out k (by omega) w)
      generalize bitI sum k = bt at *
      go_wp2_with (refine op_loadId rfl rfl rfl HX.out HS.out ?_)
      refine (HBIT.out _).mono ?_
      rintro e w3 ⟨rfl, hb⟩
      replace HO := hid (HO.out.grow hb)
      replace HU := hid (HU.out.grow hb)
      replace HG := hid (Grow.trans HG.out hb)
      clear hb HX
      go_wp2_with fail
      refine (refSecret seed leaf k bt hs _).mono ?_
      rintro e w4 ⟨rfl, hb⟩
      rw [← HE1.out]
      replace HO := hid (HO.out.grow hb)
      replace HU := hid (HU.out.grow hb)
      replace HG := hid (Grow.trans HG.out hb)
      clear hb
      go_wp2_with (refine op_appIds1T (w0 := w1) (l1 := shownG seed leaf sum k) rfl rfl rfl rfl rfl rfl (fun _ => rfl) (fun _ => rfl) (shownG_length _ _ _ _) HO.out HU.out HT.out HG.out HG.out.size (by rw [rowOf_length]; omega) ?_)
      intro x5 v5 w5 ho hu ht hb
      rw [← HN1.out] at ho
      clear HO HU HT HG
      have HO := hid ho
      have HU := hid hu
      have HT := hid ht
      have HG := hid hb
      have HX := hid (grow_block X.out HG.out)
      clear ho hu ht hb
      go_wp2_with (refine op_loadId rfl rfl rfl HX.out HS.out ?_)
      refine (HBIT.out _).mono ?_
      rintro e w6 ⟨rfl, hb⟩
      replace HO := hid (HO.out.grow hb)
      replace HU := hid (HU.out.grow hb)
      replace HG := hid (Grow.trans HG.out hb)
      clear hb HX
      go_wp2_with fail
      refine (refSecret seed leaf k (1 - bt) hs _).mono ?_
      rintro e w7 ⟨rfl, hb⟩
      replace HO := hid (HO.out.grow hb)
      replace HU := hid (HU.out.grow hb)
      replace HG := hid (Grow.trans HG.out hb)
      clear hb
      go_wp2_with fail
      refine (refPublic (secretOf seed leaf k (1 - bt)) (secretOf_length _ _ _ _) _).mono ?_
      rintro e w8 ⟨rfl, hb⟩
      rw [← HE2.out]
      replace HO := hid (HO.out.grow hb)
      replace HU := hid (HU.out.grow hb)
      replace HG := hid (Grow.trans HG.out hb)
      clear hb
      go_wp2_with (refine op_appIds1T (w0 := w1) (l1 := hiddenG seed leaf sum k) rfl rfl rfl rfl rfl rfl (fun _ => rfl) (fun _ => rfl) (hiddenG_length _ _ _ _) HU.out HO.out HT.out.symm HG.out HG.out.size (by rw [rowOf_length]; omega) ?_)
      intro x9 v9 w9 hu ho ht hb
      rw [← HN2.out] at hu
      clear HO HU HT HG
      have HO := hid ho
      have HU := hid hu
      have HT := hid ht.symm
      have HG := hid hb
      clear ho hu ht hb
      go_wp2
      go_roundg (n + 1 - (k + 1))
      case rel => exact ⟨k + 1, by omega, rfl, by go_num, HO, HU, HT, HG⟩
      case measure => omega
    · obtain rfl : k = n := by omega
      go_wp2_with fail
      go_ret2
      exact ⟨_, _, rfl, HO.out.base HB.out.size, HU.out.base HB.out.size, HB.out.trans HG.out⟩
end Go.Proofs.Ytkibibgbmkejjaa
