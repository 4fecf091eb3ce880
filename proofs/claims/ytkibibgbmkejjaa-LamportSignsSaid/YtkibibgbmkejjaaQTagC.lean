/- tag.Chain, its reference: contracts. -/
import Derived.Test.YtkibibgbmkejjaaQTagR
import Derived.Test.YtkibibgbmkejjaaQRowsK
set_option linter.unusedSimpArgs false
set_option linter.unusedVariables false
namespace Go.Proofs.Ytkibibgbmkejjaa
open Go.RowKit
open Go.Qk hiding rotr b4
set_option maxHeartbeats 1000000
set_option maxRecDepth 100000
theorem flatten_take_succ (l : List (List UInt8)) (k : Nat) (h : k < l.length) : (l.take (k + 1)).flatten = (l.take k).flatten ++ l.getD k [] := by
  rw [List.take_succ_eq_append_getElem h, List.flatten_append]
  simp [h]
theorem flatten_take_len (l : List (List UInt8)) (hl : ∀ s ∈ l, s.length = 32) (k : Nat) (h : k ≤ l.length) : (l.take k).flatten.length = 32 * k := by
  induction k with
  | zero => rfl
  | succ k ih =>
    rw [flatten_take_succ l k (by omega), List.length_append, ih (by omega)]
    have : l.getD k [] ∈ l := by simp [show k < l.length by omega]
    rw [hl _ this]
    omega
theorem getD_mem_len {l : List (List UInt8)} (hl : ∀ s ∈ l, s.length = 32) {k : Nat} (h : k < l.length) : (l.getD k []).length = 32 := hl _ (by simp [h])
theorem refAll (A : Option Addr) (n c : Nat) (l : List (List UInt8)) (w : World) (hx : IdRow w A l) (hn : l.length = n) (hl : ∀ s ∈ l, s.length = 32) (hmax : l.length ≤ 1000000) :
    Calls Try.prog 46 #[.slice A n c] w fun e w' => e = .returned (.string (bs l.flatten)) ∧ Below w.heap.size w w' := by
  subst hn
  have HX := hid hx
  have HL := hid hl
  clear hx hl
  go_enter Try.func46, Try.ntmps46
  have HB := hid (grow_refl w)
  go_wp2_with fail
  go_loopg [3, 4] (l.length + 1) (fun q v i wr => ∃ k : Nat, k ≤ l.length ∧ q = l.length + 1 - k ∧ i = .int .i64 k ∧ v = .string (bs (l.take k).flatten) ∧ Hid (Grow w wr))
  case atStart => exact ⟨0, by omega, rfl, rfl, rfl, HB⟩
  case round =>
    clear HB
    obtain ⟨k, hk, hq, rfl, rfl, HB⟩ := hrel
    by_cases hlt : k < l.length
    · have k0 : (0 : Int) ≤ (k : Int) := by omega
      have k1 : (k : Int) < (l.length : Int) := by omega
      obtain ⟨ad, rfl, hc⟩ := (HX.out.grow HB.out).at_ k hlt
      have HC := hid hc
      have H32 := hid (getD_mem_len HL.out hlt)
      have hs1 : (bs (l.take k).flatten).size = 32 * k := by rw [bs_size, flatten_take_len l HL.out k hk]
      have hs2 : (bs (l.getD k [])).size = 32 := by rw [bs_size, H32.out]
      have HN := hid (show bs (l.take k).flatten ++ bs (l.getD k []) = bs (l.take (k + 1)).flatten by rw [flatten_take_succ l k hlt, bs_append])
      clear hc
      generalize l.getD k [] = s at *
      generalize bs (l.take k).flatten = c1 at *
      go_wp2_with (refine op_loadAt (l := s) rfl rfl rfl HC.out H32.out ?_)
      refine (ref3Bytes s H32.out _).mono ?_
      rintro e w1 ⟨rfl, hb⟩
      have HB1 := hid (Grow.trans HB.out hb)
      clear hb HC
      generalize bs s = c2 at *
      go_wp2
      go_roundg (l.length + 1 - (k + 1))
      case rel => exact ⟨k + 1, by omega, rfl, by go_num, by rw [HN.out], HB1⟩
      case measure => omega
    · obtain rfl : k = l.length := by omega
      go_wp2_with fail
      go_ret
      exact ⟨by rw [List.take_length]; rfl, HB.out⟩
/-- The sum of a row. -/
def chainOf (name : ByteArray) (l : List (List UInt8)) : List UInt8 := tagSum (cutName name) [bs l.flatten]
theorem chainOf_length (name : ByteArray) (l : List (List UInt8)) : (chainOf name l).length = 32 := tagSum_length _ _
theorem textOf_one (name : ByteArray) (a : List UInt8) (hn : name.size ≤ 255) (ha : a.length ≤ 100000000) : (textOf name [bs a]).length ≤ 140737488355328 := by
  simp [textOf, partsOf, be_length, bl_length, bs_size]
  omega
theorem tagChain (name : ByteArray) (hsz : name.size ≤ 9223372036854775807) (A : Option Addr) (n c : Nat) (l : List (List UInt8)) (w : World) (hx : IdRow w A l) (hn : l.length = n) (hl : ∀ s ∈ l, s.length = 32) (hmax : l.length ≤ 1000000) :
    Calls Try.prog 45 #[.string name, .slice A n c] w fun e w' => e = .returned (idV (chainOf name l)) ∧ Below w.heap.size w w' := by
  subst hn
  have HX := hid hx
  have HL := hid hl
  have HTL := hid (chainOf_length name l)
  clear hx hl
  go_enter Try.func45, Try.ntmps45
  apply wp_seq_k; intro _ _; apply wp_region_lit
  refine op_alloc rfl rfl ?_
  intro gr W hgl hgu hb hr
  have HR := hid hr; have HB := hid hb; have HRL := hid hgl; have HRU := hid hgu
  clear hr hb hgl hgu
  try simp only [Act.put, List.setIfInBounds_toArray, List.set_cons_zero, List.set_cons_succ]
  refine wpList_nil ?_
  go_wp2_with (refine op_makeBytes (c := 32 * l.length) rfl rfl (by simp [Act.eval]) (by omega) ?_)
  intro v0 W0 hown hg0
  have HO := hid hown
  have HG := hid hg0
  clear hown hg0
  go_wp2_with fail
  go_loopg [5, 14] (l.length + 1) (fun q v i wr => ∃ k : Nat, k ≤ l.length ∧ q = l.length + 1 - k ∧ i = .int .i64 k ∧ Hid (Buf 5 W.heap.size wr v (l.take k).flatten) ∧ Hid (Grow W wr))
  case atStart => exact ⟨0, by omega, rfl, rfl, HO, HG⟩
  case round =>
    clear HO HG
    obtain ⟨k, hk, hq, rfl, HO, HG⟩ := hrel
    by_cases hlt : k < l.length
    · have k0 : (0 : Int) ≤ (k : Int) := by omega
      have k1 : (k : Int) < (l.length : Int) := by omega
      obtain ⟨ad, rfl, hc⟩ := (HX.out.grow (Grow.trans HB.out HG.out)).at_ k hlt
      have HC := hid hc
      have H32 := hid (getD_mem_len HL.out hlt)
      have hs1 : (l.take k).flatten.length = 32 * k := flatten_take_len l HL.out k hk
      have HN := hid (flatten_take_succ l k hlt)
      clear hc
      generalize l.getD k [] = s at *
      go_wp2_with (first | (refine op_loadAt (l := s) rfl rfl rfl HC.out H32.out ?_) | (refine op_allocstore (l := s) rfl rfl rfl rfl rfl rfl (fun _ => rfl) ⟨fun _ => rfl, H32.out⟩ ?_))
      intro g7 w1 hgl hgu hb hr
      have HO1 := hid (HO.out.grow hb)
      have HG1 := hid (Grow.trans HG.out hb)
      have HR1 := hid hr
      clear hgl hgu hb hr HC
      go_wp2_with (at_builtin; refine app_bytes (w0 := W) (B := W.heap.size) (.tmp 18) (.tmp 19) 112 5 _ (l.take k).flatten s ⟨g7, 0, none⟩ 32 32 rfl rfl Try.underlying112 infoU8 rfl rfl H32.out ?hm HO1.out HG1.out HG1.out.size ?hl ?_)
      case hm => intro i hi; rw [addr_add]; exact cell_u8 HR1.out (grow_refl _) i hi
      case hl => have := H32.out; omega
      intro v2 w2 hown hb2 hs2
      rw [← HN.out] at hown
      have HO2 := hid hown
      have HG2 := hid hb2
      clear hown hb2 hs2
      go_wp2
      go_roundg (l.length + 1 - (k + 1))
      case rel => exact ⟨k + 1, by omega, rfl, by go_num, HO2, HG2⟩
      case measure => omega
    · obtain rfl : k = l.length := by omega
      rw [List.take_length] at HO
      have hcv := buf_str (P := Try.prog) 112 5 9 Try.underlying112 Try.underlying5 Try.underlying9 _ _ HO.out
      have HTX := hid (textOf_one (cutName name) l.flatten (cutName_size name) (by have := flatten_take_len l HL.out l.length (Nat.le_refl _); rw [List.take_length] at this; omega))
      have hfl : l.flatten.length ≤ 100000000 := by have := flatten_take_len l HL.out l.length (Nat.le_refl _); rw [List.take_length] at this; omega
      replace HR := hid (grow_block HR.out HG.out)
      replace HB := hid (Grow.trans HB.out HG.out)
      go_wp2_with fail
      refine (tagSumF name _ _ _ [bs l.flatten] _ (strRow_alloc wr [bs l.flatten] _ (by simp)) rfl hsz HTX.out).mono ?_
      rintro e w4 ⟨rfl, hb⟩
      replace hb := Grow.trans (grow_alloc _ _) hb
      replace HR := hid (grow_block HR.out hb)
      replace HB := hid (Grow.trans HB.out hb)
      clear hb
      clear hcv
      go_wp2_with (first |  (refine op_buildId rfl rfl ?_) | (refine op_storeId (l := chainOf name l) rfl rfl rfl rfl rfl HR.out (by rfl) (HTL.out) ?_))
      intro wz hz _ hbz
      have HZ := hid hz; have HBZ := hid (hbz _ _ HB.out HRL.out)
      clear hz hbz
      go_wp2_with fail
      refine bodyPost_ret (ret_id rfl rfl HZ.out (HTL.out)) rfl ⟨?_, HBZ.out⟩
      rfl
end Go.Proofs.Ytkibibgbmkejjaa
