/- witness.leafText, publics: contracts. -/
import Derived.Test.YtabkaflccaklhaaQWit2
set_option linter.unusedSimpArgs false
set_option linter.unusedVariables false
namespace Go.Proofs.Ytabkaflccaklhaa
open Go.RowKit
open Go.Qk hiding rotr b4
set_option maxHeartbeats 1000000
set_option maxRecDepth 100000
theorem wLeafText (A : Option Addr) (n c : Nat) (l : List IdK) (w : World) (hx : IdRow w A l) (hn : l.length = n) (hl : ∀ s ∈ l, s.length = 32) (hmax : l.length ≤ 1000000) :
    Calls Try.prog 173 #[.slice A n c] w fun e w' => e = .returned (.string (bs (leafTx l))) ∧ Below w.heap.size w w' := by
  subst hn
  have HX := hid hx
  have HL := hid hl
  have HLT := hid (show leafTx l = textOf leafName [bs l.flatten] from rfl)
  clear hx hl
  go_enter Try.func173, Try.ntmps173
  have HB := hid (grow_refl w)
  go_wp2_with fail
  go_loopg [3, 10] (l.length + 1) (fun q v i wr => ∃ k : Nat, k ≤ l.length ∧ q = l.length + 1 - k ∧ i = .int .i64 k ∧ Hid (Buf 5 w.heap.size wr v (l.take k).flatten) ∧ Hid (Grow w wr))
  case atStart => exact ⟨0, by omega, rfl, rfl, hid (World.ownsRow_nil _ _ _ _), HB⟩
  case round =>
    clear HB
    obtain ⟨k, hk, hq, rfl, HO, HB⟩ := hrel
    by_cases hlt : k < l.length
    · have k0 : (0 : Int) ≤ (k : Int) := by omega
      have k1 : (k : Int) < (l.length : Int) := by omega
      obtain ⟨ad, rfl, hc⟩ := (HX.out.grow HB.out).at_ k hlt
      have HC := hid hc
      have H32 := hid (getD_mem_len HL.out hlt)
      have hs1 : (l.take k).flatten.length = 32 * k := flatten_take_len l HL.out k hk
      have HN := hid (flatten_take_succ l k hlt)
      clear hc
      generalize l.getD k [] = s at *
      go_wp2_with (first | (refine op_loadAt (l := s) rfl rfl rfl HC.out H32.out ?_) | (refine op_allocstore (l := s) rfl rfl rfl rfl rfl rfl (fun _ => rfl) ⟨fun _ => rfl, H32.out⟩ ?_))
      intro g7 w1 hgl hgu hb hr
      have HO1 := hid (HO.out.grow hb)
      have HG1 := hid (Grow.trans HB.out hb)
      have HR1 := hid hr
      clear hgl hgu hb hr HC
      go_wp2_with (at_builtin; refine app_bytes (w0 := w) (B := w.heap.size) (.tmp 14) (.tmp 15) 51 5 _ (l.take k).flatten s ⟨g7, 0, none⟩ 32 32 rfl rfl Try.underlying51 infoU8 rfl rfl H32.out ?hm HO1.out HG1.out HG1.out.size ?hl ?_)
      case hm => intro i hi; rw [addr_add]; exact cell_u8 HR1.out (grow_refl _) i hi
      case hl => have := H32.out; omega
      intro v2 w2 hown hb2 hs2
      rw [← HN.out] at hown
      have HO2 := hid hown
      have HG2 := hid hb2
      clear hown hb2 hs2
      go_wp2
      go_roundg (l.length + 1 - (k + 1))
      case rel => exact ⟨k + 1, by omega, rfl, by go_num, HO2, HG2⟩
      case measure => omega
    · obtain rfl : k = l.length := by omega
      rw [List.take_length] at HO
      have hcv := buf_str (P := Try.prog) 51 5 9 Try.underlying51 Try.underlying5 Try.underlying9 _ _ HO.out
      have hfl : l.flatten.length ≤ 100000000 := by have := flatten_take_len l HL.out l.length (Nat.le_refl _); rw [List.take_length] at this; omega
      have HTX := hid (textOf_one leafName l.flatten (by decide) hfl)
      go_wp2_with fail
      refine (tagText leafName _ _ _ [bs l.flatten] _ (strRow_alloc wr [bs l.flatten] _ (by simp)) rfl (by decide) HTX.out).mono ?_
      rintro e w4 ⟨rfl, hb⟩
      replace hb := Grow.trans (grow_alloc _ _) hb
      have HB4 := hid (Grow.trans HB.out hb)
      clear hb hcv
      go_wp2_with fail
      go_ret
      exact ⟨by rw [HLT.out]; rfl, HB4.out⟩
def pairTo (g : Nat → Nat → IdK) (k j : Nat) : List IdK := [g k 0, g k 1].take j
theorem pairTo_succ (g : Nat → Nat → IdK) (k j : Nat) (h : j < 2) : pairTo g k (j + 1) = pairTo g k j ++ [g k j] := by
  match j, h with
  | 0, _ => rfl
  | 1, _ => rfl
theorem pairTo_length (g : Nat → Nat → IdK) (k j : Nat) (h : j ≤ 2) : (pairTo g k j).length = j := by simp [pairTo]; omega
theorem wPublics (seed : ByteArray) (hs : seed.size ≤ 1000000) (b h : Nat) (hb : b ≤ 256) (leaf : Int) (hl : leaf ≤ 9223372036854775807) (w : World) :
    Calls Try.prog 174 #[.agg #[.int .i64 (b : Int), .int .i64 (h : Int)], .string seed, .int .i64 leaf] w (RetIds w.heap.size w (bothRow (leafPub seed leaf) b)) := by
  have HS := hid hs
  have HL := hid hl
  have LP := hid (leafPub_length seed leaf)
  have HSE := hid (fun (k j : Nat) w => lamSecret seed leaf (k : Int) (j : Int) hs hl w)
  have HPU := hid (fun (k j : Nat) w => lamPublic (secretOf seed leaf (k : Int) (j : Int)) (secretOf_length _ _ _ _) w)
  have HDE := hid (fun (k j : Nat) => show publicOf (secretOf seed leaf (k : Int) (j : Int)) = leafPub seed leaf k j from rfl)
  have LSE := hid (fun (k j : Nat) => secretOf_length seed leaf (k : Int) (j : Int))
  generalize leafPub seed leaf = g at *
  have hb1 : (b : Int) ≤ 256 := by omega
  clear hs hl
  go_enter Try.func174, Try.ntmps174
  have HB := hid (grow_refl w)
  apply wp_seq_k; intro _ _; apply wp_region_lit
  refine op_boxC (cs := #[.int .i64 (b : Int), .int .i64 (h : Int)]) rfl rfl rfl rfl ?_
  intro gp w1 hgl hgu hb hr
  have PL := hid (Nat.le_trans HB.out.size hgl)
  replace HB := hid (Grow.trans HB.out hb)
  have P := hid hr; have PU := hid hgu
  clear hr hgl hgu hb
  try simp only [Act.put, List.setIfInBounds_toArray, List.set_cons_zero, List.set_cons_succ]
  go_wp2_with (first | (refine opG_loadB rfl rfl rfl P.out Try.underlying92 rfl rfl ?_) | (refine opG_load1 rfl rfl rfl P.out rfl Try.underlying3 rfl ?_) |  fail)
  clear P PU PL
  go_loopg [7, 12] (b + 1) (fun z v i wr => ∃ k : Nat, k ≤ b ∧ z = b + 1 - k ∧ i = .int .i64 k ∧ Hid (OwnIds 25 w.heap.size wr v (bothRow g k)) ∧ Hid (Grow w wr))
  case atStart => exact ⟨0, by omega, rfl, rfl, hid ⟨World.ownsRow_nil _ _ _ _, fun _ h => by cases h⟩, HB⟩
  case round =>
    clear HB
    obtain ⟨k, hk, hq, rfl, HO, HB⟩ := hrel
    by_cases hlt : k < b
    · have k0 : (0 : Int) ≤ (k : Int) := by omega
      have k1 : (k : Int) < (b : Int) := by omega
      have HLN := hid (bothRow_length g k)
      have HBS := hid (bothRow_succ g k)
      go_wp2_with fail
      go_loopg [7, 15] 3 (fun z v i wr => ∃ j : Nat, j ≤ 2 ∧ z = 3 - j ∧ i = .int .i64 j ∧ Hid (OwnIds 25 w.heap.size wr v (bothRow g k ++ pairTo g k j)) ∧ Hid (Grow w wr))
      case atStart => exact ⟨0, by omega, rfl, rfl, hid (by rw [show pairTo g k 0 = [] from rfl, List.append_nil]; exact HO.out), HB⟩
      case round =>
        clear HO HB
        obtain ⟨j, hj, hz, rfl, HO, HB⟩ := hrel
        by_cases hjl : j < 2
        · have j0 : (0 : Int) ≤ (j : Int) := by omega
          have j1 : (j : Int) < 2 := by omega
          have HPS := hid (pairTo_succ g k j hjl)
          have HPL := hid (pairTo_length g k j (by omega))
          have LG := hid (LP.out k j)
          go_wp2_with fail
          refine (HSE.out k j _).mono ?_
          rintro e w3 ⟨rfl, hb⟩
          replace HO := hid (HO.out.grow hb)
          replace HB := hid (Grow.trans HB.out hb)
          clear hb
          go_wp2_with fail
          refine (HPU.out k j _).mono ?_
          rintro e w4 ⟨rfl, hb⟩
          rw [HDE.out]
          replace HO := hid (HO.out.grow hb)
          replace HB := hid (Grow.trans HB.out hb)
          clear hb
          generalize g k j = x at *
          go_wp2_with (first | (refine op_appIds1 (w0 := w) (l1 := x) rfl rfl rfl rfl rfl rfl (fun _ => rfl) (fun _ => rfl) LG.out HO.out HB.out HB.out.size (by rw [List.length_append, HLN.out, HPL.out]; omega) ?_) | fail)
          intro x5 v5 w9 ho hbl _
          rw [← HPS.out] at ho
          have HO' := hid ho
          have HG' := hid hbl
          clear ho hbl
          go_wp2_with fail
          go_roundg (3 - (j + 1))
          case rel => exact ⟨j + 1, by omega, rfl, by go_num, HO', HG'⟩
          case measure => omega
        · obtain rfl : j = 2 := by omega
          rw [show pairTo g k 2 = [g k 0, g k 1] from rfl, ← HBS.out] at HO
          go_wp2_with fail
          go_roundg (b + 1 - (k + 1))
          case rel => exact ⟨k + 1, by omega, rfl, by go_num, HO, HB⟩
          case measure => omega
    · obtain rfl : k = b := by omega
      go_wp2_with fail
      go_ret
      exact ⟨_, rfl, HO.out, HB.out⟩
end Go.Proofs.Ytabkaflccaklhaa
