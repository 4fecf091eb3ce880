/- Joined: QIdEq QId1 QId2 QId3 QId4 QId5 QId6 QId7 QId8 QId9 QIdA QIdB QIdC QRowId QIdL. -/
import Derived.Test.YtabkaflccaklhaaGreatQSha2
import Derived.ChangeKeysEq
import Derived.Test.YtabkaflccaklhaaGreatQRef1
import Derived.Lib.BytesEntry
import Derived.Laws.Externs
import Derived.Test.YtabkaflccaklhaaGreatQShelf
import Derived.Laws.ResultCell
import Derived.Lib.LazyBuf
import Derived.Test.YtabkaflccaklhaaGreatQBase1
import Derived.WideKeyArr2
import Derived.Test.YtabkaflccaklhaaGreatProg
import Derived.WalkSpells
import Derived.WalkLawsBesides
import Derived.Deep.QuietTactic
import Derived.BigQuiet
import Derived.Deep.LoopGhost
import Derived.Deep.RegionWith
import Derived.Deep.DeepCutAuto
import Derived.Deep.CutBlock
import Derived.Deep.DeepFit
set_option linter.unusedSimpArgs false
set_option linter.unusedVariables false
section
namespace Go.Proofs.YtabkaflccaklhaaGreat
open Go.RowKit Go.Qk
section
variable {P : Program}
theorem part_u8 (e : TypeId) (l : List UInt8) (k : Nat) (hk : k < l.length) (w : World) {d : TypeDesc} (he : P.underlying e = some d) (hd : (match d with | .struct _ | .array _ _ => true | _ => false) = false) :
    (part e (u8s l).toArray (k * 1)).run P w = .ok (.int .u8 (b8 l k)) w := by
  have hagg : (isAgg e).run P w = .ok false w := by
    unfold isAgg
    rw [Sem.run_bind, run_underlying he w]
    cases d <;> simp_all
  simp [part, Sem.run_bind, hagg, u8s_get l k hk]
theorem run_eqItems_u8 (d : Nat) (e : TypeId) (l m : List UInt8) (hl : l.length = m.length) (he : P.underlying e = some (.int .u8)) (w : World) : ∀ (n k : Nat), k + n = l.length →
    (Op.eqItems (d + 1) e 1 (u8s l).toArray (u8s m).toArray (List.range' k n)).run P w = .ok (l.drop k == m.drop k) w
  | 0, k, h => by
    rw [List.drop_of_length_le (by omega), List.drop_of_length_le (by omega)]
    simp [Op.eqItems]
  | n + 1, k, h => by
    have h1 : k < l.length := by omega
    have h2 : k < m.length := by omega
    rw [List.range'_succ]
    have hb : (b8 l k == b8 m k) = (l[k] == m[k]) := by
      rw [Bool.eq_iff_iff]
      simp [b8_eq, h1, h2]
    have ih := run_eqItems_u8 d e l m hl he w n (k + 1) (by omega)
    simp only [Op.eqItems, Sem.run_bind, part_u8 e l k h1 w he rfl, part_u8 e m k h2 w he rfl, Result.andThen_ok, run_equalIn_int w d e .u8 .u8 _ _ he, hb]
    rw [List.drop_eq_getElem_cons h1, List.drop_eq_getElem_cons h2, List.cons_beq_cons]
    cases l[k] == m[k] with
    | true => simpa using ih
    | false => simp
end
theorem id_equalIn (l m : List UInt8) (hl : l.length = 32) (hm : m.length = 32) (w : World) :
    (Op.equalIn 10000 42 (idV l) (idV m)).run Tryz.prog w = .ok (l == m) w := by
  obtain ⟨i, hi, h1, h2, h3⟩ := info_u8 infoU8
  have hc : Tryz.prog.cellsOf 5 = 1 := by kernel_rfl
  have := run_equalIn_array w 9999 (u8s l).toArray (u8s m).toArray Tryz.underlying42 hi
  rw [hc, List.range_eq_range', run_eqItems_u8 9998 5 l m (by omega) Tryz.underlying5 w 32 0 (by omega)] at this
  exact this
theorem id_eql (l m : List UInt8) (hl : l.length = 32) (hm : m.length = 32) (w : World) :
    (Go.binOp .eql 42 (idV l) (idV m)).run Tryz.prog w = .ok (.bool (l == m)) w := by
  unfold idV
  rw [run_eql_struct]
  have := id_equalIn l m hl hm w
  unfold idV at this
  rw [this]
  rfl
theorem id_neq (l m : List UInt8) (hl : l.length = 32) (hm : m.length = 32) (w : World) :
    (Go.binOp .neq 42 (idV l) (idV m)).run Tryz.prog w = .ok (.bool (!(l == m))) w := by
  unfold idV
  rw [run_neq_struct]
  have := id_equalIn l m hl hm w
  unfold idV at this
  rw [this]
  rfl
theorem id_eql_self (F : List UInt8) (hF : F.length = 32) (w : World) : (Go.binOp .eql 42 (idV F) (idV F)).run Tryz.prog w = .ok (.bool true) w := by
  have := id_eql F F hF hF w
  rw [beq_self_eq_true] at this
  exact this
theorem id_guard (op : BinOp) (F G : List UInt8) (x y : Operand) (w : World) : (Go.eqGuard op 42 x y (idV F) (idV G)).run Tryz.prog w = .ok () w :=
  run_eqGuard_agg w op 42 x y _ _ (by kernel_rfl)
theorem sha_empty : shaOf [] = [227, 176, 196, 66, 152, 252, 28, 20, 154, 251, 244, 200, 153, 111, 185, 36, 39, 174, 65, 228, 100, 155, 147, 76, 164, 149, 153, 27, 120, 82, 184, 85] := by decide +kernel
theorem sha_abc : shaOf [97, 98, 99] = [186, 120, 22, 191, 143, 1, 207, 234, 65, 65, 64, 222, 93, 174, 34, 35, 176, 3, 97, 163, 150, 23, 122, 156, 180, 16, 255, 97, 242, 0, 21, 173] := by decide +kernel
end Go.Proofs.YtabkaflccaklhaaGreat
end
section
namespace Go.Proofs.YtabkaflccaklhaaGreat
open Go.RowKit
open Go.Qk
set_option maxHeartbeats 1000000
set_option maxRecDepth 100000
/-- An id's bytes, by the document. -/
theorem ref3Bytes (l : List UInt8) (hl : l.length = 32) (w : World) :
    Calls Tryz.prog 69 #[idV l] w fun e w' => e = .returned (.string (bs l)) ∧ Below w.heap.size w w' := by
  unfold idV
  go_enter Tryz.func69, Tryz.ntmps69
  go_wp2_with fail
  have HG := hid (show (w.alloc (.cells (u8s l).toArray 42)).heap[w.heap.size]? = some (.cells (u8s l).toArray 42 (0, 0)) from heap_alloc_new _ _)
  go_loopg [3, 4] 33 (fun q v i wr => ∃ k : Nat, k ≤ 32 ∧ q = 33 - k ∧ i = .int .i64 k ∧ Hid (Buf 5 (w.heap.size + 1) wr v (l.take k)) ∧ Hid (Below (w.heap.size + 1) (w.alloc (.cells (u8s l).toArray 42)) wr) ∧ Hid (w.heap.size + 1 ≤ wr.heap.size))
  case atStart =>
    have := buf_alloc (w.alloc (.cells (u8s l).toArray 42)) 5 [] 0 rfl (by decide)
    refine ⟨0, by omega, rfl, rfl, hid (by simpa [u8s] using this), hid ((Below.refl _ _).alloc (by simp) _), hid (by simp)⟩
  case round =>
    obtain ⟨k, hk, hq, rfl, hO, hB, hL⟩ := hrel
    by_cases hlt : k < 32
    · have n0 : (0 : Int) ≤ (k : Int) := by omega
      have n1 : (k : Int) < 32 := by omega
      have hc : wr.cell? ⟨w.heap.size, k, none⟩ = some (.int .u8 (b8 l k)) := by
        have h1 := cell_u8 HG.out (grow_refl _) k (by omega)
        exact (hB.out.cell (show w.heap.size < w.heap.size + 1 by omega)).trans h1
      have HT := hid (show l.take (k + 1) = l.take k ++ [l.getD k 0] by rw [List.take_succ_eq_append_getElem (by omega)]; simp [show k < l.length by omega])
      have hlen : (l.take k).length = k := by rw [List.length_take]; omega
      have HLN := hid hlen
      go_wp2_with (at_builtin; refine app_cells (w0 := w.alloc (.cells (u8s l).toArray 42)) (B := w.heap.size + 1) (.tmp 10) (.tmp 14) 85 5 (.int .u8 0) 1 1 _ (l.take k).length (u8s (l.take k)) [.int .u8 (b8 l k)] ⟨wr.heap.size, 0, none⟩ 1 1 rfl rfl Tryz.underlying85 infoU8 rfl (by decide) rfl rfl rfl ?h2 ?h3 ?h1 ?h4 ?h6 ?h5 ?h7 ?_)
      case h2 => exact cell_one_new _ _ _
      case h3 => simp [Value.oneCell']
      case h1 => exact World.ownsRow.alloc hO.out _
      case h4 => exact hB.out.alloc hL.out _
      case h6 => have := hL.out; simp; omega
      case h5 => have := HLN.out; omega
      case h7 => have := HLN.out; omega
      intro v' w5 hown hb5 hs5
      have hown' : Buf 5 (w.heap.size + 1) w5 v' (l.take (k + 1)) := by
        unfold Buf
        rw [HT.out, u8s_append]
        rw [show (l.take k ++ [l.getD k 0]).length = (l.take k).length + 1 from by simp, HLN.out]
        exact hown
      have HO5 := hid hown'
      have HB5 := hid hb5
      have HS5 := hid hs5
      clear hown hown' hb5 hs5
      go_wp2
      go_roundg (33 - (k + 1))
      case rel => exact ⟨k + 1, by omega, rfl, by go_num, HO5, HB5, HS5⟩
      case measure => omega
    · obtain rfl : k = 32 := by omega
      have hcv := buf_str (P := Tryz.prog) 85 5 9 Tryz.underlying85 Tryz.underlying5 Tryz.underlying9 _ _ hO.out
      rw [List.take_of_length_le (by omega)] at hcv
      go_wp2
      go_ret
      refine ⟨rfl, ?_⟩
      exact Below.grown (a := w) ((Below.refl w.heap.size w).alloc (Nat.le_refl _) _) (grownBy_grow (show Grow (w.alloc (.cells (u8s l).toArray 42)) wr from by unfold Grow; simpa using hB.out) none) (by simp) (fun k hk => by cases hk)
end Go.Proofs.YtabkaflccaklhaaGreat
end
section
namespace Go.Proofs.YtabkaflccaklhaaGreat
open Go.RowKit
open Go.Qk
set_option maxHeartbeats 1000000
set_option maxRecDepth 100000
theorem bytesOf_b8 (l : List UInt8) : Lib.bytesOf (l.map fun b => (b.toNat : Int)) = l := by
  induction l with
  | nil => rfl
  | cons a l ih =>
    show (a.toNat : Int).toNat.toUInt8 :: Lib.bytesOf (l.map fun b => (b.toNat : Int)) = a :: l
    rw [ih]
    simp
theorem run_load8 (l : List UInt8) (a : Addr) (w : World) (h : ∀ j, j < l.length → w.cell? (a.add j) = some (.int .u8 (b8 l j))) :
    (Extern.Bytes.loadBytes a l.length .empty).run Tryz.prog w = .ok (bs l) w := by
  have := Lib.run_loadBytesX (P := Tryz.prog) w (l.map fun b => (b.toNat : Int)) a .empty (fun j x hj => by
    have hjl : j < l.length := by
      have := (List.getElem?_eq_some_iff.1 hj).1
      simpa using this
    rw [h j hjl]
    simp [hjl] at hj
    simp [b8, hjl, hj])
  rw [List.length_map, bytesOf_b8] at this
  rw [this]
  congr 1
  apply ByteArray.ext
  simp [bs]
theorem run_cmp (l m : List UInt8) (a b : Addr) (c d : Nat) (w : World) (h1 : ∀ j, j < l.length → w.cell? (a.add j) = some (.int .u8 (b8 l j))) (h2 : ∀ j, j < m.length → w.cell? (b.add j) = some (.int .u8 (b8 m j))) :
    (Extern.BytealgCompare.compare #[.slice (some a) l.length c, .slice (some b) m.length d]).run Tryz.prog w = .ok (.int .i64 (Lib.compareBytes l m)) w := by
  change Sem.run Tryz.prog (do pure (goInt (Extern.BytealgCompare.cmp (← Extern.Bytes.bytesOf (.slice (some a) l.length c)) (← Extern.Bytes.bytesOf (.slice (some b) m.length d))))) w = _
  simp only [Extern.Bytes.bytesOf, Sem.run_bind, Sem.run_pure, run_load8 l a w h1, run_load8 m b w h2, Result.andThen]
  rw [Lib.cmp_eq]
  rfl
theorem cmp_less : ∀ (l m : List UInt8), l.length = m.length → decide (Lib.compareBytes l m < 0) = lexLess l m
  | [], [], _ => rfl
  | a :: l, b :: m, h => by
    have ih := cmp_less l m (by simpa using h)
    unfold Lib.compareBytes lexLess
    by_cases h1 : a < b
    · have : a ≠ b := by rintro rfl; simp at h1
      simp [h1, this]
    · by_cases h2 : b < a
      · have : a ≠ b := by rintro rfl; simp at h1 h2
        simp [h1, h2, this]
      · have : a = b := by
          rw [UInt8.lt_iff_toNat_lt] at h1 h2
          exact UInt8.toNat_inj.1 (by omega)
        subst this
        simp [h1, ih]
end Go.Proofs.YtabkaflccaklhaaGreat
end
section
namespace Go.Proofs.YtabkaflccaklhaaGreat
open Go.RowKit
open Go.Qk
set_option maxHeartbeats 1000000
set_option maxRecDepth 100000
section
variable {P : Program} {ops : Array Oper} {W : World} {Qe : (Tmp → World → Prop) → Act → Prop}
/-- A row that is made amid a region. -/
def rowAt (cs : List Value) (n : Nat) (v : Value) (w' : World) : Prop := ∃ g, v = .slice (some ⟨g, 0, none⟩) n n ∧ ∀ j u, cs[j]? = some u → w'.cell? ((⟨g, 0, none⟩ : Addr).add j) = some u
theorem head_row {o : Oper} {r : List (Oper × (Value → World → Prop))} {E : Tmp → World → Prop} {a : Act} (cs : List Value) (n : Nat) (T : TypeId) (hwant : Region.wanted o (yielded ops a.tmps) = true)
    (hrun : ∀ w, (execOp a.eval o).run P w = .ok (.value (.slice (some ⟨w.heap.size, 0, none⟩) n n)) (w.alloc (.cells cs.toArray T)))
    (h : ∀ g, Head P ops W Qe r (upE E o.dst (rowAt cs n (.slice (some ⟨g, 0, none⟩) n n))) (a.put o.dst (.slice (some ⟨g, 0, none⟩) n n))) : Head P ops W Qe ((o, rowAt cs n) :: r) E a := by
  refine head_abs (V := rowAt cs n) hwant ?_ ?_ ?_
  · rintro v w1 w2 ⟨g, rfl, hc⟩ hg
    exact ⟨g, rfl, fun j u hj => grow_cell (hc j u hj) hg⟩
  · intro w1 hw1 _
    exact does_val (hrun w1) ⟨grow_alloc _ _, _, rfl, fun j u hj => cells_new w1 _ _ j u hj⟩
  · rintro v ⟨_, g, rfl, _⟩
    exact h g
theorem row_at {E : Tmp → World → Prop} {t : Tmp} {cs : List Value} {n g : Nat} {w : World} (h : upE E (some t) (rowAt cs n (.slice (some ⟨g, 0, none⟩) n n)) t w) :
    ∀ j u, cs[j]? = some u → w.cell? ((⟨g, 0, none⟩ : Addr).add j) = some u := by
  unfold upE at h
  rw [if_pos rfl] at h
  obtain ⟨g', hg, hc⟩ := h
  obtain rfl : g = g' := by injection hg with h1 h2 h3; injection h1 with h1; injection h1
  exact hc
end
theorem run_index_str8 {P : Program} (t : TypeId) (s : ByteArray) (k : Nat) (h : k < s.size) (i : Int) (hi : i = k) (w : World) (ht : P.underlying t = some .string) :
    (Instr.index t (.string s) (.int .u8 i)).run P w = .ok (.int .u8 (b8 (bl s) k)) w := by
  subst hi
  have h1 : (0 : Int) ≤ (k : Int) := by omega
  have h2 : (k : Int) < (s.size : Int) := by omega
  go_simp
  have e : (bl s).getD k 0 = s[k] := by
    simp [bl, List.getD_eq_getElem?_getD, List.getElem?_eq_getElem (show k < s.data.toList.length by rw [Array.length_toList]; exact h)]
    rfl
  simp only [b8, e]
/-- A digit, and bytes as digits. -/
def dig (n : Nat) : UInt8 := ([48, 49, 50, 51, 52, 53, 54, 55, 56, 57, 97, 98, 99, 100, 101, 102] : List UInt8).getD n 0
def hex1 (b : UInt8) : List UInt8 := [dig (b.toNat / 16), dig (b.toNat % 16)]
def hexOf (l : List UInt8) (k : Nat) : List UInt8 := (l.take k).flatMap hex1
theorem hexOf_succ (l : List UInt8) (k : Nat) (h : k < l.length) : hexOf l (k + 1) = hexOf l k ++ hex1 (l.getD k 0) := by
  unfold hexOf
  rw [List.take_succ_eq_append_getElem h, List.flatMap_append]
  simp [h]
theorem hexOf_length (l : List UInt8) (k : Nat) (h : k ≤ l.length) : (hexOf l k).length = 2 * k := by
  induction k with
  | zero => rfl
  | succ k ih => rw [hexOf_succ l k (by omega), List.length_append, ih (by omega)]; simp [hex1]; omega
theorem and15F : ∀ n : Fin 256, bits .and .u8 ((n.val : Nat) : Int) 15 = ((n.val % 16 : Nat) : Int) := by decide +kernel
theorem and15 (n : Nat) (h : n < 256) : bits .and .u8 (n : Int) 15 = ((n % 16 : Nat) : Int) := and15F ⟨n, h⟩
end Go.Proofs.YtabkaflccaklhaaGreat
end
section
namespace Go.Proofs.YtabkaflccaklhaaGreat
open Go.RowKit
open Go.Qk
set_option maxHeartbeats 1000000
set_option maxRecDepth 100000
theorem digX : ∀ n : Fin 16, (⟨#[48, 49, 50, 51, 52, 53, 54, 55, 56, 57, 97, 98, 99, 100, 101, 102]⟩ : ByteArray).extract n.val (n.val + 1) = bs [dig n.val] := by decide +kernel
end Go.Proofs.YtabkaflccaklhaaGreat
end
section
namespace Go.Proofs.YtabkaflccaklhaaGreat
open Go.RowKit
open Go.Qk
set_option maxHeartbeats 1000000
set_option maxRecDepth 100000
/-- A digit's value, or -1. -/
def dval (x : UInt8) : Int := if 48 ≤ x.toNat ∧ x.toNat ≤ 57 then (x.toNat : Int) - 48 else if 97 ≤ x.toNat ∧ x.toNat ≤ 102 then (x.toNat : Int) - 87 else -1
theorem dval_lo (x : UInt8) : -1 ≤ dval x := by unfold dval; split <;> (try split) <;> omega
theorem dval_hi (x : UInt8) : dval x ≤ 15 := by unfold dval; split <;> (try split) <;> omega
theorem indexDigF : ∀ n : Fin 256, Lib.indexByte [48, 49, 50, 51, 52, 53, 54, 55, 56, 57, 97, 98, 99, 100, 101, 102] (UInt8.ofNat n.val) = dval (UInt8.ofNat n.val) := by decide +kernel
theorem indexDig (x : UInt8) : Lib.indexByte [48, 49, 50, 51, 52, 53, 54, 55, 56, 57, 97, 98, 99, 100, 101, 102] x = dval x := by
  have := indexDigF ⟨x.toNat, x.toNat_lt⟩
  simpa using this
end Go.Proofs.YtabkaflccaklhaaGreat
end
section
namespace Go.Proofs.YtabkaflccaklhaaGreat
open Go.RowKit
open Go.Qk
set_option maxHeartbeats 1000000
set_option maxRecDepth 100000
theorem results_row_tmp {P : Program} {fn : Func} {p u : Tmp} {ty : TypeId} (h : fn.results = #[.cell p ty, .tmp u]) (tmps : Array Value) (w : World) (g : Nat) (t : TypeId) (cs : Array Value) (fr : Nat × Nat) (d : TypeDesc)
    (hp : tmps.getD p undef = .pointer (some ⟨g, 0, none⟩)) (hg : w.heap[g]? = some (.cells cs t fr))
    (hu : P.underlying ty = some d) (hd : (match d with | .struct _ | .array _ _ => true | _ => false) = true) (hi : (P.info? ty).map (·.size) = some cs.size) :
    (results fn tmps).run P w = .ok (.tuple #[.agg cs, tmps.getD u undef]) w := by
  rw [results_cell_tmp h, hp]
  have h1 : (asAddr (.pointer (some ⟨g, 0, none⟩))).run P w = .ok ⟨g, 0, none⟩ w := by simp [asAddr]
  rw [h1]
  simp only [Result.andThen_ok]
  rw [run_loadVar_row w g t ty cs fr d hg hu hd hi]
  rfl
def pairOk (l : List UInt8) (i : Nat) : Bool := decide (0 ≤ dval (l.getD (2 * i) 0)) && decide (0 ≤ dval (l.getD (2 * i + 1) 0))
def pairB (l : List UInt8) (i : Nat) : UInt8 := UInt8.ofNat (16 * (dval (l.getD (2 * i) 0)).toNat + (dval (l.getD (2 * i + 1) 0)).toNat)
def parseTo (l : List UInt8) (k : Nat) : List UInt8 := (List.range k).map (pairB l)
def parseOk (l : List UInt8) : Bool := decide (l.length = 64) && (List.range 32).all (pairOk l)
def parseErr (l : List UInt8) : Int := if parseOk l then 0 else 3
/-- The id that a text is; all zeros, if it is none. -/
def parse (l : List UInt8) : List UInt8 := if parseOk l then parseTo l 32 else zero8 32
theorem parse_length (l : List UInt8) : (parse l).length = 32 := by unfold parse; split <;> simp [parseTo, zero8]
theorem parseTo_length (l : List UInt8) (k : Nat) : (parseTo l k).length = k := by simp [parseTo]
theorem parseTo_succ (l : List UInt8) (k : Nat) : parseTo l (k + 1) = parseTo l k ++ [pairB l k] := by simp [parseTo, List.range_succ]
theorem parse_bad (l : List UInt8) (k : Nat) (hk : k < 32) (h : pairOk l k = false) : parseOk l = false := by
  unfold parseOk
  rw [Bool.and_eq_false_iff]
  right
  rw [List.all_eq_false]
  exact ⟨k, List.mem_range.2 hk, by simp [h]⟩
theorem parse_set (l : List UInt8) (k : Nat) (hk : k < 32) : (u8s (parseTo l k ++ zero8 (32 - k))).toArray.setIfInBounds k (.int .u8 ((pairB l k).toNat : Int)) = (u8s (parseTo l (k + 1) ++ zero8 (32 - (k + 1)))).toArray := by
  have h1 : zero8 (32 - k) = 0 :: zero8 (32 - (k + 1)) := by
    rw [zero8, show 32 - k = (32 - (k + 1)) + 1 from by omega]
    rfl
  have hl := parseTo_length l k
  rw [parseTo_succ, h1, List.setIfInBounds_toArray, u8s_append, List.set_append_right _ _ (by rw [u8s_length, hl]; omega), u8s_length, hl]
  simp only [u8s, List.map_append, List.map_cons, List.map_nil, List.set_cons_zero, Nat.sub_self, List.append_assoc, List.cons_append, List.nil_append]
theorem orF : ∀ a b : Fin 16, bits .or .i64 (((a.val : Nat) : Int) * 16) ((b.val : Nat) : Int) = ((16 * a.val + b.val : Nat) : Int) := by decide +kernel
theorem or16 (a b : Nat) (ha : a < 16) (hb : b < 16) : bits .or .i64 ((a : Int) * 16) (b : Int) = ((16 * a + b : Nat) : Int) := orF ⟨a, ha⟩ ⟨b, hb⟩
end Go.Proofs.YtabkaflccaklhaaGreat
end
section
namespace Go.Proofs.YtabkaflccaklhaaGreat
open Go.RowKit
open Go.Qk
set_option maxHeartbeats 1000000
set_option maxRecDepth 100000
end Go.Proofs.YtabkaflccaklhaaGreat
end
section
namespace Go.Proofs.YtabkaflccaklhaaGreat
open Go.RowKit
open Go.Qk
set_option maxHeartbeats 1000000
set_option maxRecDepth 100000
/-- A bit of bytes. -/
def bitI (l : List UInt8) (n : Nat) : Int := (((l.getD (n / 8) 0).toNat / 2 ^ (7 - n % 8) % 2 : Nat) : Int)
theorem refBit (l : List UInt8) (n : Nat) (hl : l.length = 32) (hn : n < 256) (w : World) :
    Calls Tryz.prog 68 #[.string (bs l), .int .i64 n] w fun e w' => e = .returned (.int .i64 (bitI l n)) ∧ Below w.heap.size w w' := by
  have hs := bs_size l
  have hix : ∀ w, (Instr.index 9 (.string (bs l)) (.int .i64 ((n : Int) / 8))).run Tryz.prog w = .ok (.int .u8 ((l.getD (n / 8) 0).toNat : Int)) w := fun w => by
    have := run_index_str (P := Tryz.prog) 9 (bs l) (n / 8) (by omega) ((n : Int) / 8) (by omega) w Tryz.underlying9
    rw [bl_bs] at this
    exact this
  have HB := hid (show bitI l n = (((l.getD (n / 8) 0).toNat / 2 ^ (7 - n % 8) % 2 : Nat) : Int) from rfl)
  have hx := (l.getD (n / 8) 0).toNat_lt
  generalize (l.getD (n / 8) 0).toNat = x at *
  have hd : (n : Int).tdiv 8 = (n : Int) / 8 := Int.tdiv_eq_ediv_of_nonneg (by omega)
  have hm : (n : Int).tmod 8 = (n : Int) % 8 := Int.tmod_eq_emod_of_nonneg (by omega)
  go_enter Tryz.func68, Tryz.ntmps68
  go_wp2
  go_loopg [5, 6] (8 - n % 8) (fun q v i wr => ∃ k : Nat, n % 8 + k ≤ 7 ∧ q = 8 - (n % 8 + k) ∧ i = .int .i64 ((n % 8 + k : Nat) : Int) ∧ v = .int .i64 ((x / 2 ^ k : Nat) : Int) ∧ Hid (Grow w wr))
  case atStart => exact ⟨0, by omega, by omega, by simp, by simp, hid (Below.refl _ _)⟩
  case round =>
    obtain ⟨k, hk, hq, rfl, rfl, hB⟩ := hrel
    by_cases hlt : n % 8 + k < 7
    · have hxk : x / 2 ^ k < 256 := Nat.lt_of_le_of_lt (Nat.div_le_self _ _) hx
      have h2 : x / 2 ^ (k + 1) = x / 2 ^ k / 2 := by rw [Nat.pow_succ, ← Nat.div_div_eq_div_mul]
      have H2 := hid h2
      clear h2
      generalize x / 2 ^ k = y at *
      have t1 : ((n % 8 + k : Nat) : Int) < 7 := by omega
      generalize hmm : n % 8 + k = m at *
      have HM := hid hmm
      clear hmm
      go_wp2
      go_roundg (8 - (m + 1))
      case rel =>
        refine ⟨k + 1, by have := HM.out; omega, by have := HM.out; omega, ?_, ?_, hB⟩
        · rw [show ((n % 8 + (k + 1) : Nat) : Int) = (m : Int) + 1 by have := HM.out; omega]
        · rw [H2.out]; go_num
      case measure => omega
    · have HK := hid (show k = 7 - n % 8 by omega)
      have t1 : ¬ ((n % 8 + k : Nat) : Int) < 7 := by omega
      have hxk : x / 2 ^ k < 256 := Nat.lt_of_le_of_lt (Nat.div_le_self _ _) hx
      have H2 := hid (show bitI l n = ((x / 2 ^ k % 2 : Nat) : Int) by rw [HB.out, HK.out])
      generalize n % 8 + k = m at *
      generalize x / 2 ^ k = y at *
      go_wp2
      go_ret
      exact ⟨by rw [H2.out]; rfl, hB.out⟩
end Go.Proofs.YtabkaflccaklhaaGreat
end
section
namespace Go.Proofs.YtabkaflccaklhaaGreat
open Go.RowKit
open Go.Qk
set_option maxHeartbeats 1000000
set_option maxRecDepth 100000
theorem and1F : ∀ n : Fin 256, bits .and .u8 ((n.val : Nat) : Int) 1 = ((n.val % 2 : Nat) : Int) := by decide +kernel
theorem and1 (n : Nat) (h : n < 256) : bits .and .u8 (n : Int) 1 = ((n % 2 : Nat) : Int) := and1F ⟨n, h⟩
theorem shr8n (x c : Nat) (hc : c < 8) : Op.shift .shr .u8 (x : Int) .i64 (c : Int) = pure (.int .u8 ((x / 2 ^ c : Nat) : Int)) := by
  have e : min c 8 = c := by omega
  simp [Op.shift, IntKind.bits, e]
theorem idBitOut (l : List UInt8) (hl : l.length = 32) (i : Int) (h : i < 0 ∨ 256 ≤ i) (w : World) :
    Calls Tryz.prog 65 #[idV l, .int .i64 i] w fun e w' => e = .returned (.int .i64 0) ∧ Below w.heap.size w w' := by
  unfold idV
  by_cases h0 : i < 0
  · go_enter Tryz.func65, Tryz.ntmps65
    go_wp2
    go_ret
    exact ⟨rfl, grow_alloc _ _⟩
  · have h1 : 256 ≤ i := by omega
    go_enter Tryz.func65, Tryz.ntmps65
    go_wp2
    go_ret
    exact ⟨rfl, grow_alloc _ _⟩
theorem idBit (l : List UInt8) (hl : l.length = 32) (n : Nat) (hn : n < 256) (w : World) :
    Calls Tryz.prog 65 #[idV l, .int .i64 n] w fun e w' => e = .returned (.int .i64 (bitI l n)) ∧ Below w.heap.size w w' := by
  unfold idV
  have h0 : ¬ (n : Int) < 0 := by omega
  have h1 : ¬ (256 : Int) ≤ (n : Int) := by omega
  have HN := hid hn
  have hd : (n : Int).tdiv 8 = ((n / 8 : Nat) : Int) := by rw [Int.tdiv_eq_ediv_of_nonneg (by omega)]; omega
  have hm : (n : Int).tmod 8 = ((n % 8 : Nat) : Int) := by rw [Int.tmod_eq_emod_of_nonneg (by omega)]; omega
  have HX := hid (show bitI l n = (((l.getD (n / 8) 0).toNat / 2 ^ (7 - n % 8) % 2 : Nat) : Int) from rfl)
  go_enter Tryz.func65, Tryz.ntmps65
  go_upto_region 3 with (fail)
  have hc : (w.alloc (.cells (u8s l).toArray 42)).cell? ⟨w.heap.size, n / 8, none⟩ = some (.int .u8 (b8 l (n / 8))) := cell_u8 (heap_alloc_new _ _) (grow_refl _) _ (by omega)
  have HB := hid (grow_alloc w (.cells (u8s l).toArray 42))
  generalize w.alloc (.cells (u8s l).toArray 42) = W at *
  unfold b8 at hc
  have hx := (l.getD (n / 8) 0).toNat_lt
  have hcc : 7 - (n : Int) % 8 = ((7 - n % 8 : Nat) : Int) := by omega
  have hsh := shr8n (l.getD (n / 8) 0).toNat (7 - n % 8) (by omega)
  have hand := and1 ((l.getD (n / 8) 0).toNat / 2 ^ (7 - n % 8)) (Nat.lt_of_le_of_lt (Nat.div_le_self _ _) hx)
  generalize (l.getD (n / 8) 0).toNat = x at *
  generalize hy : x / 2 ^ (7 - n % 8) = y at *
  have HY := hid hy
  clear hy
  have he : (x : Int) / 2 ^ (7 - n % 8) = (y : Int) := by rw [← HY.out]; simp
  have HE := hid he
  have HAND := hid hand
  clear he hand hsh
  go_wp2
  go_ret
  refine ⟨?_, HB.out⟩
  rw [HX.out]
  show Ending.returned (.int .i64 (wrap64 (bits .and .u8 ((x : Int) / 2 ^ (7 - n % 8)) 1))) = _
  rw [HE.out, HAND.out]
  have hw : wrap64 ((y % 2 : Nat) : Int) = ((y % 2 : Nat) : Int) := by
    unfold wrap64
    omega
  rw [hw]
end Go.Proofs.YtabkaflccaklhaaGreat
end
section
namespace Go.Proofs.YtabkaflccaklhaaGreat
open Go.RowKit
open Go.Qk
set_option maxHeartbeats 1000000
set_option maxRecDepth 100000
section
variable {P : Program} {ops : Array Oper} {Q : Exit → Act → World → Prop} {rest : List Oper} {o : Oper} {a : Act} {w : World}
theorem grownBy_setCells (g : Nat) : ∀ (vs : List Value) (k : Nat) (w : World), w.grownBy (w.setCells g k vs) (some g)
  | [], _, w => grownBy_grow (Below.refl _ _) _
  | v :: r, k, w => grownBy_trans (grownBy_setCell w g k v) (grownBy_setCells g r (k + 1) _)
/-- copy(row, text): the row is as long as the text, or longer. -/
theorem copy_text (d x : Operand) (dT sT elem : TypeId) (g dLen dCap : Nat) (l : List UInt8) (cur : List Value) (t : TypeId) (hgd : o.guard = none)
    (ho : o.op = .call { callee := .builtin .copy, args := #[d, x], argTypes := #[dT, sT] }) (hu : P.underlying dT = some (.slice elem)) (hz : ∀ w, (Go.sizeOf elem).run P w = .ok 1 w)
    (hd : a.eval d = .slice (some ⟨g, 0, none⟩) dLen dCap) (hx : a.eval x = .string (bs l)) (hle : l.length ≤ dLen) (hg : w.heap[g]? = some (.cells cur.toArray t (0, 0))) (hcl : l.length ≤ cur.length)
    (h : ∀ W, (∀ j v, (u8s l)[j]? = some v → W.cell? ⟨g, j, none⟩ = some v) → w.grownBy W (some g) → (∀ B w0, Below B w0 w → B ≤ g → Below B w0 W) → wpList P ops Q rest (a.put o.dst (goInt l.length)) W) : wpList P ops Q (o :: rest) a w := by
  have hs := bs_size l
  have hc : ∀ j, j < l.length → w.cell? ⟨g, 0 + j, none⟩ = cur[j]? := fun j hj => by
    rw [Nat.zero_add, cell_of_row w g j _ t _ hg]
    simp
  have hrun := run_copy_string (P := P) w dT sT o.type elem g 0 dLen dCap (bs l) hu hz (by omega) (fun j hj => by
      rw [hc j (by omega), List.getElem?_eq_getElem (by omega)]; rfl) (fun j _ => frozen_of_row w g _ _ t hg)
  have e : ((bs l).data.toList.map fun x => Value.int .u8 (x.toNat : Int)) = u8s l := by simp [bs, u8s]
  rw [e, hs] at hrun
  refine wpList_val (v := goInt l.length) (w' := w.setCells g 0 (u8s l)) hgd ?_ ?_
  · simp [execOp, ho, resolve, invoke, builtin, hd, hx, hrun, Result.andThen]
  · refine h _ ?_ (grownBy_setCells g _ _ _) (fun B w0 hb hB => hb.trans ?_)
    · intro j v hj
      have hjl : j < (u8s l).length := (List.getElem?_eq_some_iff.1 hj).1
      have := World.cell?_setCells_in g (u8s l) 0 w (fun j hj => by
        rw [u8s_length] at hj
        rw [hc j hj, List.getElem?_eq_getElem (by omega)]; rfl) j hjl
      rw [Nat.zero_add] at this
      rw [this, ← hj, List.getElem?_eq_getElem hjl]
    · have hgr := grownBy_setCells g (u8s l) 0 w
      exact ⟨hgr.os, hgr.tape, hgr.output, hgr.size, fun k hk => hgr.block k (by have := (Array.getElem?_eq_some_iff.1 hg).1; omega) (by intro e; injection e with e; omega)⟩
end
end Go.Proofs.YtabkaflccaklhaaGreat
end
section
namespace Go.Proofs.YtabkaflccaklhaaGreat
open Go.RowKit
open Go.Qk
set_option maxHeartbeats 1000000
set_option maxRecDepth 100000
def idOf (l : List UInt8) : List UInt8 := if l.length = 32 then l else zero8 32
def idErr (l : List UInt8) : Int := if l.length = 32 then 0 else 3
theorem idOf_length (l : List UInt8) : (idOf l).length = 32 := by unfold idOf; split <;> simp_all [zero8]
theorem szU8 : ∀ w, (Go.sizeOf 5).run Tryz.prog w = .ok 1 w := fun _ => by kernel_rfl
end Go.Proofs.YtabkaflccaklhaaGreat
end
section
namespace Go.Proofs.YtabkaflccaklhaaGreat
open Go.RowKit
open Go.Qk
set_option maxRecDepth 100000
theorem dvalDigF : ∀ n : Fin 16, dval (dig n.val) = ((n.val : Nat) : Int) := by decide +kernel
theorem dvalDig (n : Nat) (h : n < 16) : dval (dig n) = n := dvalDigF ⟨n, h⟩
theorem hexAll_even : ∀ (l : List UInt8) (i : Nat), i < l.length → (l.flatMap hex1).getD (2 * i) 0 = dig ((l.getD i 0).toNat / 16)
  | a :: l, 0, _ => rfl
  | a :: l, i + 1, h => by
    have ih := hexAll_even l i (by simpa using h)
    rw [List.flatMap_cons, hex1, show 2 * (i + 1) = 2 * i + 1 + 1 from by omega]
    simpa using ih
theorem hexAll_odd : ∀ (l : List UInt8) (i : Nat), i < l.length → (l.flatMap hex1).getD (2 * i + 1) 0 = dig ((l.getD i 0).toNat % 16)
  | a :: l, 0, _ => rfl
  | a :: l, i + 1, h => by
    have ih := hexAll_odd l i (by simpa using h)
    rw [List.flatMap_cons, hex1, show 2 * (i + 1) + 1 = 2 * i + 1 + 1 + 1 from by omega]
    simpa using ih
theorem hex_parse (l : List UInt8) (hl : l.length = 32) : parseOk (hexOf l 32) = true ∧ parse (hexOf l 32) = l := by
  have hH : hexOf l 32 = l.flatMap hex1 := by rw [hexOf, List.take_of_length_le (by omega)]
  have hlen := hexOf_length l 32 (by omega)
  have he : ∀ i, i < 32 → dval ((hexOf l 32).getD (2 * i) 0) = (((l.getD i 0).toNat / 16 : Nat) : Int) := fun i hi => by
    have := (l.getD i 0).toNat_lt
    rw [hH, hexAll_even l i (by omega), dvalDig _ (by omega)]
  have ho : ∀ i, i < 32 → dval ((hexOf l 32).getD (2 * i + 1) 0) = (((l.getD i 0).toNat % 16 : Nat) : Int) := fun i hi => by
    have := (l.getD i 0).toNat_lt
    rw [hH, hexAll_odd l i (by omega), dvalDig _ (by omega)]
  have hok : parseOk (hexOf l 32) = true := by
    rw [parseOk, hlen, Bool.and_eq_true]
    refine ⟨rfl, List.all_eq_true.2 fun i hi => ?_⟩
    have hi' := List.mem_range.1 hi
    rw [pairOk, he i hi', ho i hi']
    simp
    omega
  refine ⟨hok, ?_⟩
  rw [parse, hok, if_pos rfl]
  apply List.ext_getElem
  · rw [parseTo_length, hl]
  · intro i h1 h2
    have hi' : i < 32 := by omega
    simp only [parseTo, List.getElem_map, List.getElem_range]
    rw [pairB, he i hi', ho i hi']
    have e : l.getD i 0 = l[i] := by simp [h2]
    rw [e]
    have := l[i].toNat_lt
    apply UInt8.toNat_inj.1
    rw [UInt8.toNat_ofNat']
    simp only [Int.toNat_natCast]
    omega
theorem parse_ok_errno (l : List UInt8) : (parseErr l == 0) = parseOk l := by
  unfold parseErr
  cases parseOk l <;> rfl
end Go.Proofs.YtabkaflccaklhaaGreat
end
section
namespace Go.Qk
open Go.RowKit Go.ChangeShapes Go.WideShapes Go.ChangeAt
section
variable {H : Type} {enc : TypeId × Value → H} {P : Program} {w : World} {base : Nat} {sp : Nat → Bool} {held : Bool}
/-- A byte out of a cell. -/
def byteOf : Value → UInt8
  | .int _ a => UInt8.ofNat a.toNat
  | _ => 0
theorem u8s_byteOf (cs : List Value) (h : ∀ v ∈ cs, ∃ a, v = .int .u8 a ∧ (Lit.int .u8 a).wf = true) : u8s (cs.map byteOf) = cs := by
  unfold u8s
  rw [List.map_map]
  conv => rhs; rw [← List.map_id cs]
  apply List.map_congr_left
  intro v hv
  obtain ⟨a, rfl, ha⟩ := h v hv
  simp [Lit.wf, IntKind.min, IntKind.max, IntKind.signed, IntKind.bits] at ha
  simp only [Function.comp, byteOf, id]
  congr 1
  rw [UInt8.toNat_ofNat']
  omega
theorem trod_id {t e : TypeId} {fuel : Nat} {cs : List Value} {x : DataW H × List MemPlace} (ht : P.underlying t = some (.array 32 e)) (he : P.underlying e = some (.int .u8)) (hc : P.cellsOf e = 1) (hl : cs.length = 32)
    (hf : DataW.trod enc P w base sp held fuel t cs = some x) : ∃ l : List UInt8, cs = u8s l ∧ l.length = 32 ∧ x.2 = [] := by
  obtain ⟨xs, m, rfl, hx, _, hn, hel⟩ := DataW.trod_array ht hf
  have hall : ∀ i, i < 32 → ∃ a, cs[i]? = some (.int .u8 a) ∧ (Lit.int .u8 a).wf = true ∧ ∃ y, xs[i]? = some y ∧ y.2 = [] := by
    intro i hi
    have hE := hel i hi
    rw [hc, Nat.mul_one] at hE
    have hxi : xs[i]? = some xs[i] := List.getElem?_eq_getElem (by omega)
    rw [hxi] at hE
    obtain ⟨a, ea, hy, wa⟩ := DataW.trod_int he hE
    refine ⟨a, ?_, wa, xs[i], hxi, ?_⟩
    · have e1 : ((cs.drop i).take 1)[0]? = some (.int .u8 a) := by rw [ea]; rfl
      simpa using e1
    · rw [hy]
  have hcell : ∀ v ∈ cs, ∃ a, v = .int .u8 a ∧ (Lit.int .u8 a).wf = true := by
    intro v hv
    obtain ⟨i, hi, rfl⟩ := List.mem_iff_getElem.1 hv
    obtain ⟨a, h1, h2, _⟩ := hall i (by omega)
    rw [List.getElem?_eq_getElem hi] at h1
    exact ⟨a, Option.some.inj h1, h2⟩
  refine ⟨cs.map byteOf, (u8s_byteOf _ hcell).symm, by rw [List.length_map, hl], ?_⟩
  rw [hx, List.flatMap_eq_nil_iff]
  intro y hy
  obtain ⟨i, hi, rfl⟩ := List.mem_iff_getElem.1 hy
  obtain ⟨a, _, _, y, h1, h2⟩ := hall i (by omega)
  rw [List.getElem?_eq_getElem hi] at h1
  rw [Option.some.inj h1]
  exact h2
/-- A row of ids that is read. -/
def IdRow (w : World) (A : Option Addr) (xs : List (List UInt8)) : Prop := xs.length ≤ 9223372036854775807 ∧ (xs ≠ [] → ∃ ad, A = some ad ∧ ∀ i, i < xs.length → ∀ j v, (u8s (xs.getD i []))[j]? = some v → w.cell? ((ad.add (i * 32)).add j) = some v)
theorem IdRow.grow {w1 : World} {A : Option Addr} {xs : List (List UInt8)} (h : IdRow w A xs) (hg : Grow w w1) : IdRow w1 A xs :=
  ⟨h.1, fun hne => by obtain ⟨ad, e, hc⟩ := h.2 hne; exact ⟨ad, e, fun i hi j v hv => grow_cell (hc i hi j v hv) hg⟩⟩
theorem IdRow.at_ {A : Option Addr} {xs : List (List UInt8)} (h : IdRow w A xs) (i : Nat) (hi : i < xs.length) : ∃ ad, A = some ad ∧ ∀ j v, (u8s (xs.getD i []))[j]? = some v → w.cell? ((ad.add (i * 32)).add j) = some v := by
  obtain ⟨ad, e, hc⟩ := h.2 (by intro e; subst e; simp at hi)
  exact ⟨ad, e, hc i hi⟩
theorem open_idRow {t e u : TypeId} {fuel : Nat} {a : Option Addr} {len cap : Nat} {x : DataW H × List MemPlace} (ht : P.underlying t = some (.slice e)) (he : P.underlying e = some (.array 32 u)) (hce : P.cellsOf e = 32) (hu : P.underlying u = some (.int .u8)) (hcu : P.cellsOf u = 1)
    (h : DataW.trod enc P w base sp held fuel t (Value.slice a len cap).cells.toList = some x) :
    ∃ xs, IdRow w a xs ∧ xs.length = len ∧ ∀ s ∈ xs, s.length = 32 := by
  rcases DataW.trod_slice ht h with ⟨h1, _⟩ | ⟨b, l, c, elems, rest, n, _, hcs, _, _, hl, hm, hlen, hel, _⟩
  · simp [Value.cells] at h1
    obtain ⟨rfl, rfl, rfl⟩ := h1
    exact ⟨[], ⟨by simp, fun h => absurd rfl h⟩, rfl, fun _ h => by cases h⟩
  · simp [Value.cells] at hcs
    obtain ⟨rfl, rfl, rfl⟩ := hcs
    have each : ∀ i, i < len → ∃ l : List UInt8, l.length = 32 ∧ ∀ j v, (u8s l)[j]? = some v → w.cell? ((b.add (i * 32)).add j) = some v := by
      intro i hi
      have hE := hel i hi
      rw [hce, List.getElem?_eq_getElem (by omega), Option.bind_eq_some_iff] at hE
      obtain ⟨cs, hcs, hy⟩ := hE
      obtain ⟨h2, h3, h4⟩ := World.cells?_some hcs
      obtain ⟨l, rfl, hl32, _⟩ := trod_id he hu hcu h3 hy
      refine ⟨l, hl32, fun j v hv => ?_⟩
      have hj : j < 32 := by have := (List.getElem?_eq_some_iff.1 hv).1; omega
      rw [h4 j hj]
      exact hv
    have ch : ∃ f : Nat → List UInt8, ∀ i, i < len → (f i).length = 32 ∧ ∀ j v, (u8s (f i))[j]? = some v → w.cell? ((b.add (i * 32)).add j) = some v := by
      refine ⟨fun i => if h : i < len then (each i h).choose else [], fun i hi => ?_⟩
      simp only [dif_pos hi]
      exact (each i hi).choose_spec
    obtain ⟨f, hf⟩ := ch
    unfold maxLen at hm
    refine ⟨(List.range len).map f, ⟨by simp; omega, fun _ => ⟨b, rfl, fun i hi => ?_⟩⟩, by simp, fun s hs => ?_⟩
    · have hi' : i < len := by simpa using hi
      have e1 : ((List.range len).map f).getD i [] = f i := by simp [hi']
      rw [e1]
      exact (hf i hi').2
    · obtain ⟨i, hi, rfl⟩ := List.mem_map.1 hs
      exact (hf i (List.mem_range.1 hi)).1
theorem open_id {r : Reach} {b0 : Nat} {t e : TypeId} {v : Value} {d : DataW H} {p : List MemPlace} (ht : P.underlying t = some (.array 32 e)) (he : P.underlying e = some (.int .u8)) (hc : P.cellsOf e = 1) (hct : P.cellsOf t = 32)
    (hv : Value.okWide P w r b0 t v) (h : DataW.Trod enc P w base sp held t v d p) : ∃ x : List UInt8, v = idV x ∧ x.length = 32 ∧ p = [] := by
  simp only [Value.okWide, ht] at hv
  obtain ⟨cs, rfl, h2, _⟩ := hv
  obtain ⟨fuel, hf⟩ := h
  obtain ⟨xs, m, rfl, hx, hl, hn, hel⟩ := DataW.trod_array ht hf
  have hcl : cs.toList.length = 32 := by rw [Array.length_toList, h2, hct]
  have hall : ∀ i, i < 32 → ∃ a, cs.toList[i]? = some (.int .u8 a) ∧ (Lit.int .u8 a).wf = true ∧ ∃ y, xs[i]? = some y ∧ y.2 = [] := by
    intro i hi
    have hE := hel i hi
    rw [hc, Nat.mul_one] at hE
    have hxi : xs[i]? = some xs[i] := List.getElem?_eq_getElem (by omega)
    rw [hxi] at hE
    obtain ⟨a, ea, hy, wa⟩ := DataW.trod_int he hE
    refine ⟨a, ?_, wa, xs[i], hxi, ?_⟩
    · have e1 : ((cs.toList.drop i).take 1)[0]? = some (.int .u8 a) := by
        simp only [Value.cells] at ea
        rw [ea]; rfl
      simpa using e1
    · rw [hy]
  have hcell : ∀ v ∈ cs.toList, ∃ a, v = .int .u8 a ∧ (Lit.int .u8 a).wf = true := by
    intro v hv
    obtain ⟨i, hi, rfl⟩ := List.mem_iff_getElem.1 hv
    obtain ⟨a, h1, h2, _⟩ := hall i (by omega)
    rw [List.getElem?_eq_getElem hi] at h1
    exact ⟨a, Option.some.inj h1, h2⟩
  refine ⟨cs.toList.map byteOf, ?_, by rw [List.length_map, hcl], ?_⟩
  · unfold idV
    rw [u8s_byteOf _ hcell]
  · have hp : p = xs.flatMap (·.2) := by injection hx
    rw [hp, List.flatMap_eq_nil_iff]
    intro y hy
    obtain ⟨i, hi, rfl⟩ := List.mem_iff_getElem.1 hy
    obtain ⟨a, _, _, y, h1, h2⟩ := hall i (by omega)
    rw [List.getElem?_eq_getElem hi] at h1
    rw [Option.some.inj h1]
    exact h2
end
end Go.Qk
end
section
namespace Go.Proofs.YtabkaflccaklhaaGreat
open Go.RowKit Go.Qk

set_option maxHeartbeats 400000
set_option maxRecDepth 100000
end Go.Proofs.YtabkaflccaklhaaGreat
end
