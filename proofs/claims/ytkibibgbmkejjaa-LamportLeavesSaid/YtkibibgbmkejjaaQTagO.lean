/- tag.Of, its reference: contracts. -/
import Derived.Test.YtkibibgbmkejjaaQKit
import Derived.Test.YtkibibgbmkejjaaQTag
import Derived.Test.YtkibibgbmkejjaaQRefF
set_option linter.unusedSimpArgs false
set_option linter.unusedVariables false
namespace Go.Proofs.Ytkibibgbmkejjaa
open Go.RowKit
open Go.Qk hiding rotr b4
set_option maxHeartbeats 1000000
set_option maxRecDepth 100000
theorem byte_str (w : World) (x : Nat) (h : x < 256) : (convert 112 9 (.slice (some ⟨w.heap.size, 0, none⟩) 1 1)).run Try.prog (w.alloc (.cells #[.int .u8 (x : Int)] 5)) = .ok (.string (bs [UInt8.ofNat x])) (w.alloc (.cells #[.int .u8 (x : Int)] 5)) := by
  apply run_str_block (P := Try.prog) _ 112 5 9 5 Try.underlying112 Try.underlying5 Try.underlying9 w.heap.size 1 [UInt8.ofNat x] (0, 0) _ 1 rfl
  rw [heap_alloc_new, ← u8_of x h]
  rfl
/-- A tagged sum. -/
def tagSum (name : ByteArray) (xs : List ByteArray) : List UInt8 := shaOf (textOf name xs)
theorem tagSum_length (name : ByteArray) (xs : List ByteArray) : (tagSum name xs).length = 32 := shaOf_length _
theorem tagOf_long (name : ByteArray) (v : Value) (hname : 255 < name.size) (w : World) :
    Calls Try.prog 40 #[.string name, v] w fun e w' => e = .returned (.tuple #[idV (zero8 32), .int .i64 4]) ∧ Below w.heap.size w w' := by
  go_enter Try.func40, Try.ntmps40
  apply wp_seq_k; intro _ _; apply wp_region_lit
  refine op_alloc rfl rfl ?_
  intro gr W hgl hgu hb hr
  have HR := hid hr; have HB := hid hb; have HRL := hid hgl; have HRU := hid hgu
  clear hr hb hgl hgu
  try simp only [Act.put, List.setIfInBounds_toArray, List.set_cons_zero, List.set_cons_succ]
  go_wp2_with fail
  refine (tagText_long name v hname _).mono ?_
  rintro e w1 ⟨rfl, hb⟩
  replace HR := hid (grow_block HR.out hb)
  replace HB := hid (Grow.trans HB.out hb)
  clear hb
  go_wp2_with (first |  (refine op_buildId rfl rfl ?_) | (refine op_storeId (l := zero8 32) rfl rfl rfl rfl rfl HR.out (by rfl) (rfl) ?_))
  intro wz hz _ hbz
  have HZ := hid hz; have HBZ := hid (hbz _ _ HB.out HRL.out)
  clear hz hbz
  go_wp2_with fail
  refine bodyPost_ret (ret_idt rfl rfl HZ.out (rfl)) rfl ⟨?_, HBZ.out⟩
  rfl
theorem tagOf (name : ByteArray) (A : Option Addr) (n c : Nat) (xs : List ByteArray) (w : World) (hx : StrRow w A xs) (hn : xs.length = n) (hname : name.size ≤ 255) (hlen : (textOf name xs).length ≤ 140737488355328) :
    Calls Try.prog 40 #[.string name, .slice A n c] w fun e w' => e = .returned (.tuple #[idV (tagSum name xs), .int .i64 0]) ∧ Below w.heap.size w w' := by
  have HX := hid hx
  clear hx
  go_enter Try.func40, Try.ntmps40
  apply wp_seq_k; intro _ _; apply wp_region_lit
  refine op_alloc rfl rfl ?_
  intro gr W hgl hgu hb hr
  have HR := hid hr; have HB := hid hb; have HRL := hid hgl; have HRU := hid hgu
  clear hr hb hgl hgu
  try simp only [Act.put, List.setIfInBounds_toArray, List.set_cons_zero, List.set_cons_succ]
  replace HX := hid (HX.out.grow HB.out)
  go_wp2_with fail
  refine (tagText name A n c xs _ HX.out hn hname hlen).mono ?_
  rintro e w1 ⟨rfl, hb⟩
  replace HR := hid (grow_block HR.out hb)
  replace HB := hid (Grow.trans HB.out hb)
  replace HX := hid (HX.out.grow hb)
  clear hb
  go_wp2_with fail
  refine (shaSum (textOf name xs) hlen _).mono ?_
  rintro e w2 ⟨rfl, hb⟩
  replace HR := hid (grow_block HR.out hb)
  replace HB := hid (Grow.trans HB.out hb)
  replace HX := hid (HX.out.grow hb)
  clear hb
  go_wp2_with (first |  (refine op_buildId rfl rfl ?_) | (refine op_storeId (l := tagSum name xs) rfl rfl rfl rfl rfl HR.out (by rfl) (tagSum_length name xs) ?_))
  intro wz hz _ hbz
  have HZ := hid hz; have HBZ := hid (hbz _ _ HB.out HRL.out)
  clear hz hbz
  go_wp2_with fail
  refine bodyPost_ret (ret_idt rfl rfl HZ.out (tagSum_length name xs)) rfl ⟨?_, HBZ.out⟩
  rfl
theorem refText (name : ByteArray) (A : Option Addr) (n c : Nat) (xs : List ByteArray) (w : World) (hx : StrRow w A xs) (hn : xs.length = n) (hname : name.size ≤ 255) (hlen : (textOf name xs).length ≤ 140737488355328) :
    Calls Try.prog 41 #[.string name, .slice A n c] w fun e w' => e = .returned (.string (bs (textOf name xs))) ∧ Below w.heap.size w w' := by
  subst hn
  have HX := hid hx
  have HL := hid hlen
  have hxl := hx.1
  clear hx hlen
  go_enter Try.func41, Try.ntmps41
  have hsz : (name.size : Int) % 256 = name.size := by omega
  have hcv := byte_str w name.size (by omega)
  have hs1 : (bs [UInt8.ofNat name.size]).size = 1 := by rw [bs_size]; rfl
  have HE := hid (show bs [UInt8.ofNat name.size] ++ name = bs (textOf name (xs.take 0)) by rw [textOf_nil, ← bs_append, bs_bl])
  generalize bs [UInt8.ofNat name.size] = c1 at *
  go_wp2
  go_loopg [5, 6] (xs.length + 1) (fun n v i wr => ∃ k : Nat, k ≤ xs.length ∧ n = xs.length - k + 1 ∧ i = .int .i64 k ∧ v = .string (bs (textOf name (xs.take k))) ∧ Hid (Grow w wr))
  case atStart => exact ⟨0, by omega, by omega, rfl, by rw [HE.out], hid (grow_alloc _ _)⟩
  case round =>
    obtain ⟨k, hk, hn, rfl, rfl, hB⟩ := hrel
    clear hcv
    by_cases hlt : k < xs.length
    · have k0 : (0 : Int) ≤ (k : Int) := by omega
      have k1 : (k : Int) < (xs.length : Int) := by omega
      obtain ⟨ad, rfl, hc⟩ := HX.out.at_ k hlt
      have hc' : wr.cell? (ad.add k) = some (.string (xs.getD k ByteArray.empty)) := grow_cell hc hB.out
      have hsum : (textOf name (xs.take k)).length + (8 + (xs.getD k ByteArray.empty).size) ≤ 140737488355328 := by
        have h1 := textOf_take_le name xs (k + 1)
        rw [textOf_snoc name xs k hlt] at h1
        simp only [List.length_append, bl_length, be_length] at h1
        have := HL.out
        omega
      have HN := hid (show bs (textOf name (xs.take k)) ++ (bs (be 8 (xs.getD k ByteArray.empty).size) ++ xs.getD k ByteArray.empty) = bs (textOf name (xs.take (k + 1))) by
        rw [textOf_snoc name xs k hlt, ← bs_append, ← bs_append, bs_bl])
      have hs2 : (bs (textOf name (xs.take k))).size = (textOf name (xs.take k)).length := bs_size _
      have hlen8 : (bs (be 8 (xs.getD k ByteArray.empty).size)).size = 8 := by rw [bs_size, be_length]
      generalize xs.getD k ByteArray.empty = s at *
      generalize (textOf name (xs.take k)).length = m at *
      generalize bs (textOf name (xs.take k)) = c2 at *
      clear hc
      go_wp2_with fail
      refine (refNumber8 s.size (by omega) wr).mono ?_
      rintro e w2 ⟨rfl, hb2⟩
      have HB2 := hid (Grow.trans hB.out hb2)
      have hc2 := grow_cell hc' hb2
      clear hb2 hc'
      generalize bs (be 8 s.size) = q at *
      go_wp2
      go_roundg (xs.length - (k + 1) + 1)
      case rel => exact ⟨k + 1, by omega, rfl, by go_num, by rw [HN.out], HB2⟩
      case measure => omega
    · have HE2 := hid (textOf_all name xs k (by omega))
      rw [HE2.out]
      go_wp2
      go_ret
      exact ⟨rfl, hB.out⟩
theorem refOf (name : ByteArray) (A : Option Addr) (n c : Nat) (xs : List ByteArray) (w : World) (hx : StrRow w A xs) (hn : xs.length = n) (hname : name.size ≤ 255) (hlen : (textOf name xs).length ≤ 140737488355328) :
    Calls Try.prog 42 #[.string name, .slice A n c] w fun e w' => e = .returned (idV (tagSum name xs)) ∧ Below w.heap.size w w' := by
  have HX := hid hx
  clear hx
  go_enter Try.func42, Try.ntmps42
  apply wp_seq_k; intro _ _; apply wp_region_lit
  refine op_alloc rfl rfl ?_
  intro gr W hgl hgu hb hr
  have HR := hid hr; have HB := hid hb; have HRL := hid hgl; have HRU := hid hgu
  clear hr hb hgl hgu
  try simp only [Act.put, List.setIfInBounds_toArray, List.set_cons_zero, List.set_cons_succ]
  replace HX := hid (HX.out.grow HB.out)
  go_wp2_with fail
  refine (refText name A n c xs _ HX.out hn hname hlen).mono ?_
  rintro e w1 ⟨rfl, hb⟩
  replace HR := hid (grow_block HR.out hb)
  replace HB := hid (Grow.trans HB.out hb)
  replace HX := hid (HX.out.grow hb)
  clear hb
  go_wp2_with fail
  refine (refSum (textOf name xs) hlen _).mono ?_
  rintro e w2 ⟨rfl, hb⟩
  replace HR := hid (grow_block HR.out hb)
  replace HB := hid (Grow.trans HB.out hb)
  replace HX := hid (HX.out.grow hb)
  clear hb
  go_wp2_with (first |  (refine op_buildId rfl rfl ?_) | (refine op_storeId (l := tagSum name xs) rfl rfl rfl rfl rfl HR.out (by rfl) (tagSum_length name xs) ?_))
  intro wz hz _ hbz
  have HZ := hid hz; have HBZ := hid (hbz _ _ HB.out HRL.out)
  clear hz hbz
  go_wp2_with fail
  refine bodyPost_ret (ret_id rfl rfl HZ.out (tagSum_length name xs)) rfl ⟨?_, HBZ.out⟩
  rfl
end Go.Proofs.Ytkibibgbmkejjaa
