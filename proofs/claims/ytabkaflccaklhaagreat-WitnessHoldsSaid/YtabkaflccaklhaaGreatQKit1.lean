/- Joined: QKit QTagO QNum QTagR QRowsK QSame QRows2 QTagC QHead. -/
import Derived.Test.YtabkaflccaklhaaGreatQIdx1
import Derived.Test.YtabkaflccaklhaaGreatQBase1
import Derived.Test.YtabkaflccaklhaaGreatQRef1
import Derived.Laws.MakeOwn
import Derived.Laws.OwnMore
import Derived.Maps.AppendAt
set_option linter.unusedSimpArgs false
set_option linter.unusedVariables false
section
/- Words for functions that make, keep and return ids. -/
namespace Go.Proofs.YtabkaflccaklhaaGreat
open Go.RowKit
open Go.Qk hiding rotr b4
set_option maxHeartbeats 1000000
set_option maxRecDepth 100000
section
variable {ops : Array Oper} {Q : Exit → Act → World → Prop} {rest : List Oper} {o o2 : Oper} {a : Act} {w : World}
theorem run_allocId (w : World) : (Instr.alloc 42 true (.tuple #[])).run Tryz.prog w = .ok (.pointer (some ⟨w.heap.size, 0, none⟩)) (w.alloc (.cells (u8s (zero8 32)).toArray 42)) := by kernel_rfl
theorem op_alloc (hgd : o.guard = none) (ho : o.op = .alloc 42)
    (h : ∀ g W, w.heap.size ≤ g → g < W.heap.size → Grow w W → W.heap[g]? = some (.cells (u8s (zero8 32)).toArray 42 (0, 0)) → wpList Tryz.prog ops Q rest (a.put o.dst (.pointer (some ⟨g, 0, none⟩))) W) :
    wpList Tryz.prog ops Q (o :: rest) a w := by
  refine wpList_val (v := .pointer (some ⟨w.heap.size, 0, none⟩)) (w' := w.alloc (.cells (u8s (zero8 32)).toArray 42)) hgd ?_ (h _ _ (Nat.le_refl _) (by simp) (grow_alloc _ _) (heap_alloc_new _ _))
  unfold execOp
  simp only [ho, Sem.run_bind, Sem.run_pure, Result.andThen_ok, run_allocId]
theorem run_boxId (l : List UInt8) (w : World) : (Instr.box 42 (idV l)).run Tryz.prog w = .ok (.pointer (some ⟨w.heap.size, 0, none⟩)) (w.alloc (.cells (u8s l).toArray 42)) := by rfl
theorem op_box {x : Operand} {l : List UInt8} (hgd : o.guard = none) (ho : o.op = .box 42 x) (hx : a.eval x = idV l)
    (h : ∀ g W, w.heap.size ≤ g → g < W.heap.size → Grow w W → W.heap[g]? = some (.cells (u8s l).toArray 42 (0, 0)) → wpList Tryz.prog ops Q rest (a.put o.dst (.pointer (some ⟨g, 0, none⟩))) W) :
    wpList Tryz.prog ops Q (o :: rest) a w := by
  refine wpList_val (v := .pointer (some ⟨w.heap.size, 0, none⟩)) (w' := w.alloc (.cells (u8s l).toArray 42)) hgd ?_ (h _ _ (Nat.le_refl _) (by simp) (grow_alloc _ _) (heap_alloc_new _ _))
  unfold execOp
  simp only [ho, hx, Sem.run_bind, Sem.run_pure, Result.andThen_ok, run_boxId]
theorem szIdL {l : List UInt8} (hl : l.length = 32) : (Tryz.prog.info? 42).map (·.size) = some (u8s l).length := by rw [szId, u8s_length, hl]
/-- An id is stored in a cell that is known whole. -/
theorem op_storeId {x y : Operand} {g : Nat} {l m : List UInt8} {t : TypeId} (hgd : o.guard = none) (hdst : o.dst = none) (ho : o.op = .store 42 x y) (hx : a.eval x = .pointer (some ⟨g, 0, none⟩)) (hy : a.eval y = idV l)
    (hg : w.heap[g]? = some (.cells (u8s m).toArray t (0, 0))) (hm : m.length = 32) (hl : l.length = 32)
    (h : ∀ W, W.heap[g]? = some (.cells (u8s l).toArray t (0, 0)) → w.grownBy W (some g) → (∀ B w0, Below B w0 w → B ≤ g → Below B w0 W) → wpList Tryz.prog ops Q rest a W) : wpList Tryz.prog ops Q (o :: rest) a w :=
  store_block 42 x y g 0 (u8s l) (u8s m) (u8s l) t hgd hdst ho hx hy hg (szIdL hl) (by rw [u8s_length, u8s_length]; omega) (u8s_one _) (by simp [u8s_length, hl, hm]) h
/-- An id's cell is made, and the id is stored at once. -/
theorem op_allocstore {d : Tmp} {y : Operand} {l : List UInt8} (hgd : o.guard = none) (ho : o.op = .alloc 42) (hd : o.dst = some d) (hgd2 : o2.guard = none) (hdst2 : o2.dst = none) (ho2 : o2.op = .store 42 (.tmp d) y)
    (hx : ∀ g, (a.put o.dst (.pointer (some ⟨g, 0, none⟩))).eval (.tmp d) = .pointer (some ⟨g, 0, none⟩)) (hl : (∀ g, (a.put o.dst (.pointer (some ⟨g, 0, none⟩))).eval y = idV l) ∧ l.length = 32)
    (h : ∀ g W, w.heap.size ≤ g → g < W.heap.size → Grow w W → W.heap[g]? = some (.cells (u8s l).toArray 42 (0, 0)) → wpList Tryz.prog ops Q rest (a.put o.dst (.pointer (some ⟨g, 0, none⟩))) W) :
    wpList Tryz.prog ops Q (o :: o2 :: rest) a w := by
  refine op_alloc hgd ho fun g W h1 h2 h3 h4 => ?_
  refine op_storeId (l := l) hgd2 hdst2 ho2 (hx g) (hl.1 g) h4 (by rfl) hl.2 fun W' h5 h6 h7 => ?_
  exact h g W' h1 (Nat.lt_of_lt_of_le h2 h6.size) (h7 _ _ h3 h1) h5
/-- An id is loaded out of a cell that is known whole. -/
theorem op_loadId {x : Operand} {g : Nat} {l : List UInt8} {t : TypeId} {fr : Nat × Nat} (hgd : o.guard = none) (ho : o.op = .load 42 x) (hx : a.eval x = .pointer (some ⟨g, 0, none⟩)) (hg : w.heap[g]? = some (.cells (u8s l).toArray t fr)) (hl : l.length = 32)
    (h : wpList Tryz.prog ops Q rest (a.put o.dst (idV l)) w) : wpList Tryz.prog ops Q (o :: rest) a w :=
  wpList_load_agg hgd 42 x ho ⟨g, 0, none⟩ hx (u8s l) _ (cells_block (tl := []) (by rw [List.append_nil]; exact hg)) Tryz.underlying42 rfl (szIdL hl) h
/-- An id is loaded out of a row. -/
theorem op_loadAt {x : Operand} {ad : Addr} {l : List UInt8} (hgd : o.guard = none) (ho : o.op = .load 42 x) (hx : a.eval x = .pointer (some ad)) (hc : ∀ j v, (u8s l)[j]? = some v → w.cell? (ad.add j) = some v) (hl : l.length = 32)
    (h : wpList Tryz.prog ops Q rest (a.put o.dst (idV l)) w) : wpList Tryz.prog ops Q (o :: rest) a w :=
  wpList_load_agg hgd 42 x ho ad hx (u8s l) _ hc Tryz.underlying42 rfl (szIdL hl) h
theorem run_loadId {g : Nat} {l : List UInt8} {t : TypeId} {fr : Nat × Nat} (hg : w.heap[g]? = some (.cells (u8s l).toArray t fr)) (hl : l.length = 32) : (Instr.loadAt 42 (.pointer (some ⟨g, 0, none⟩))).run Tryz.prog w = .ok (idV l) w :=
  run_loadAt_agg w ⟨g, 0, none⟩ 42 (u8s l) _ (cells_block (tl := []) (by rw [List.append_nil]; exact hg)) Tryz.underlying42 rfl (szIdL hl)
theorem run_loadIdAt {ad : Addr} {l : List UInt8} (hc : ∀ j v, (u8s l)[j]? = some v → w.cell? (ad.add j) = some v) (hl : l.length = 32) : (Instr.loadAt 42 (.pointer (some ad))).run Tryz.prog w = .ok (idV l) w :=
  run_loadAt_agg w ad 42 (u8s l) _ hc Tryz.underlying42 rfl (szIdL hl)
theorem ret_id {fn : Func} {p : Tmp} {tmps : Array Value} {g : Nat} {l : List UInt8} {t : TypeId} {fr : Nat × Nat} (h : fn.results = #[.cell p 42]) (hp : tmps.getD p undef = .pointer (some ⟨g, 0, none⟩)) (hg : w.heap[g]? = some (.cells (u8s l).toArray t fr)) (hl : l.length = 32) :
    (results fn tmps).run Tryz.prog w = .ok (idV l) w :=
  results_cell_row h _ _ g t _ fr _ hp hg Tryz.underlying42 rfl (by rw [szId]; simp [u8s_length, hl])
theorem ret_idt {fn : Func} {p u : Tmp} {tmps : Array Value} {g : Nat} {l : List UInt8} {t : TypeId} {fr : Nat × Nat} (h : fn.results = #[.cell p 42, .tmp u]) (hp : tmps.getD p undef = .pointer (some ⟨g, 0, none⟩)) (hg : w.heap[g]? = some (.cells (u8s l).toArray t fr)) (hl : l.length = 32) :
    (results fn tmps).run Tryz.prog w = .ok (.tuple #[idV l, tmps.getD u undef]) w :=
  results_row_tmp h _ _ g _ _ fr _ hp hg Tryz.underlying42 rfl (by rw [szId]; simp [u8s_length, hl])
theorem run_buildId (w : World) : (Instr.build 42 #[]).run Tryz.prog w = .ok (idV (zero8 32)) w := by kernel_rfl
theorem op_buildId (hgd : o.guard = none) (ho : o.op = .build 42 #[]) (h : wpList Tryz.prog ops Q rest (a.put o.dst (idV (zero8 32))) w) : wpList Tryz.prog ops Q (o :: rest) a w :=
  wpList_val hgd (by unfold execOp; simp only [ho, Array.map_empty, List.map_toArray, List.map_nil, Sem.run_bind, Sem.run_pure, Result.andThen_ok, run_buildId]) h
theorem zero8_length (n : Nat) : (zero8 n).length = n := by simp [zero8]
/-- string(a[:]) of an id that lies in a cell. -/
theorem run_strId {g : Nat} {l : List UInt8} {t : TypeId} (hg : w.heap[g]? = some (.cells (u8s l).toArray t (0, 0))) (hl : l.length = 32) :
    (convert 85 9 (.slice (some ⟨g, 0, none⟩) 32 32)).run Tryz.prog w = .ok (.string (bs l)) w := by
  refine run_str w 85 5 9 Tryz.underlying85 Tryz.underlying5 Tryz.underlying9 g 0 32 l (fun i hi => ?_) 32 hl
  rw [Nat.zero_add]
  exact cell_u8 hg (grow_refl w) i hi
end
section
variable {ops : Array Oper} {W : World} {Qe : (Tmp → World → Prop) → Act → Prop}
theorem head_loadAt {o : Oper} {r : List (Oper × (Value → World → Prop))} {E : Tmp → World → Prop} {a : Act} {x : Operand} {ad : Addr} {l : List UInt8} (hwant : Region.wanted o (yielded ops a.tmps) = true) (hE : ∀ t, o.dst = some t → ∀ w, E t w)
    (ho : o.op = .load 42 x) (hx : a.eval x = .pointer (some ad)) (hc : ∀ j v, (u8s l)[j]? = some v → W.cell? (ad.add j) = some v) (hl : l.length = 32)
    (h : Head Tryz.prog ops W Qe r E (a.put o.dst (idV l))) : Head Tryz.prog ops W Qe ((o, fun x _ => x = idV l) :: r) E a := by
  refine head_val hwant hE (fun w hw _ => ?_) h
  unfold execOp
  simp only [ho, hx, Sem.run_bind, Sem.run_pure, Result.andThen_ok, run_loadIdAt (w := w) (fun j v hv => grow_cell (hc j v hv) hw) hl]
theorem head_loadId {o : Oper} {r : List (Oper × (Value → World → Prop))} {E : Tmp → World → Prop} {a : Act} {x : Operand} {g : Nat} {l : List UInt8} {t : TypeId} {fr : Nat × Nat} (hwant : Region.wanted o (yielded ops a.tmps) = true) (hE : ∀ t, o.dst = some t → ∀ w, E t w)
    (ho : o.op = .load 42 x) (hx : a.eval x = .pointer (some ⟨g, 0, none⟩)) (hg : W.heap[g]? = some (.cells (u8s l).toArray t fr)) (hl : l.length = 32)
    (h : Head Tryz.prog ops W Qe r E (a.put o.dst (idV l))) : Head Tryz.prog ops W Qe ((o, fun x _ => x = idV l) :: r) E a :=
  head_loadAt hwant hE ho hx (cells_block (tl := []) (by rw [List.append_nil]; exact hg)) hl h
end
theorem strRow_cells {w : World} {ad : Addr} {xs : List ByteArray} (hc : ∀ j u, (xs.map Value.string)[j]? = some u → w.cell? (ad.add j) = some u) (hl : xs.length ≤ 9223372036854775807) : StrRow w (some ad) xs :=
  ⟨hl, fun _ => ⟨ad, rfl, fun i hi => hc i _ (by simp [hi])⟩⟩
theorem strRow_alloc (w : World) (xs : List ByteArray) (t : TypeId) (hl : xs.length ≤ 9223372036854775807) : StrRow (w.alloc (.cells (xs.map Value.string).toArray t)) (some ⟨w.heap.size, 0, none⟩) xs :=
  strRow_cells (fun j u h => cells_new w _ t j u h) hl
end Go.Proofs.YtabkaflccaklhaaGreat
end
section
/- tag.Of, its reference: contracts. -/
namespace Go.Proofs.YtabkaflccaklhaaGreat
open Go.RowKit
open Go.Qk hiding rotr b4
set_option maxHeartbeats 1000000
set_option maxRecDepth 100000
theorem byte_str (w : World) (x : Nat) (h : x < 256) : (convert 85 9 (.slice (some ⟨w.heap.size, 0, none⟩) 1 1)).run Tryz.prog (w.alloc (.cells #[.int .u8 (x : Int)] 5)) = .ok (.string (bs [UInt8.ofNat x])) (w.alloc (.cells #[.int .u8 (x : Int)] 5)) := by
  apply run_str_block (P := Tryz.prog) _ 85 5 9 5 Tryz.underlying85 Tryz.underlying5 Tryz.underlying9 w.heap.size 1 [UInt8.ofNat x] (0, 0) _ 1 rfl
  rw [heap_alloc_new, ← u8_of x h]
  rfl
/-- A tagged sum. -/
def tagSum (name : ByteArray) (xs : List ByteArray) : List UInt8 := shaOf (textOf name xs)
theorem tagSum_length (name : ByteArray) (xs : List ByteArray) : (tagSum name xs).length = 32 := shaOf_length _
theorem tagOf_long (name : ByteArray) (v : Value) (hname : 255 < name.size) (w : World) :
    Calls Tryz.prog 92 #[.string name, v] w fun e w' => e = .returned (.tuple #[idV (zero8 32), .int .i64 4]) ∧ Below w.heap.size w w' := by
  go_enter Tryz.func92, Tryz.ntmps92
  apply wp_seq_k; intro _ _; apply wp_region_lit
  refine op_alloc rfl rfl ?_
  intro gr W hgl hgu hb hr
  have HR := hid hr; have HB := hid hb; have HRL := hid hgl; have HRU := hid hgu
  clear hr hb hgl hgu
  try simp only [Act.put, List.setIfInBounds_toArray, List.set_cons_zero, List.set_cons_succ]
  go_wp2_with fail
  refine (tagText_long name v hname _).mono ?_
  rintro e w1 ⟨rfl, hb⟩
  replace HR := hid (grow_block HR.out hb)
  replace HB := hid (Grow.trans HB.out hb)
  clear hb
  go_wp2_with (first |  (refine op_buildId rfl rfl ?_) | (refine op_storeId (l := zero8 32) rfl rfl rfl rfl rfl HR.out (by rfl) (rfl) ?_))
  intro wz hz _ hbz
  have HZ := hid hz; have HBZ := hid (hbz _ _ HB.out HRL.out)
  clear hz hbz
  go_wp2_with fail
  refine bodyPost_ret (ret_idt rfl rfl HZ.out (rfl)) rfl ⟨?_, HBZ.out⟩
  rfl
theorem tagOf (name : ByteArray) (A : Option Addr) (n c : Nat) (xs : List ByteArray) (w : World) (hx : StrRow w A xs) (hn : xs.length = n) (hname : name.size ≤ 255) (hlen : (textOf name xs).length ≤ 140737488355328) :
    Calls Tryz.prog 92 #[.string name, .slice A n c] w fun e w' => e = .returned (.tuple #[idV (tagSum name xs), .int .i64 0]) ∧ Below w.heap.size w w' := by
  have HX := hid hx
  clear hx
  go_enter Tryz.func92, Tryz.ntmps92
  apply wp_seq_k; intro _ _; apply wp_region_lit
  refine op_alloc rfl rfl ?_
  intro gr W hgl hgu hb hr
  have HR := hid hr; have HB := hid hb; have HRL := hid hgl; have HRU := hid hgu
  clear hr hb hgl hgu
  try simp only [Act.put, List.setIfInBounds_toArray, List.set_cons_zero, List.set_cons_succ]
  replace HX := hid (HX.out.grow HB.out)
  go_wp2_with fail
  refine (tagText name A n c xs _ HX.out hn hname hlen).mono ?_
  rintro e w1 ⟨rfl, hb⟩
  replace HR := hid (grow_block HR.out hb)
  replace HB := hid (Grow.trans HB.out hb)
  replace HX := hid (HX.out.grow hb)
  clear hb
  go_wp2_with fail
  refine (shaSum (textOf name xs) hlen _).mono ?_
  rintro e w2 ⟨rfl, hb⟩
  replace HR := hid (grow_block HR.out hb)
  replace HB := hid (Grow.trans HB.out hb)
  replace HX := hid (HX.out.grow hb)
  clear hb
  go_wp2_with (first |  (refine op_buildId rfl rfl ?_) | (refine op_storeId (l := tagSum name xs) rfl rfl rfl rfl rfl HR.out (by rfl) (tagSum_length name xs) ?_))
  intro wz hz _ hbz
  have HZ := hid hz; have HBZ := hid (hbz _ _ HB.out HRL.out)
  clear hz hbz
  go_wp2_with fail
  refine bodyPost_ret (ret_idt rfl rfl HZ.out (tagSum_length name xs)) rfl ⟨?_, HBZ.out⟩
  rfl
theorem refText (name : ByteArray) (A : Option Addr) (n c : Nat) (xs : List ByteArray) (w : World) (hx : StrRow w A xs) (hn : xs.length = n) (hname : name.size ≤ 255) (hlen : (textOf name xs).length ≤ 140737488355328) :
    Calls Tryz.prog 112 #[.string name, .slice A n c] w fun e w' => e = .returned (.string (bs (textOf name xs))) ∧ Below w.heap.size w w' := by
  subst hn
  have HX := hid hx
  have HL := hid hlen
  have hxl := hx.1
  clear hx hlen
  go_enter Tryz.func112, Tryz.ntmps112
  have hsz : (name.size : Int) % 256 = name.size := by omega
  have hcv := byte_str w name.size (by omega)
  have hs1 : (bs [UInt8.ofNat name.size]).size = 1 := by rw [bs_size]; rfl
  have HE := hid (show bs [UInt8.ofNat name.size] ++ name = bs (textOf name (xs.take 0)) by rw [textOf_nil, ← bs_append, bs_bl])
  generalize bs [UInt8.ofNat name.size] = c1 at *
  go_wp2
  go_loopg [5, 6] (xs.length + 1) (fun n v i wr => ∃ k : Nat, k ≤ xs.length ∧ n = xs.length - k + 1 ∧ i = .int .i64 k ∧ v = .string (bs (textOf name (xs.take k))) ∧ Hid (Grow w wr))
  case atStart => exact ⟨0, by omega, by omega, rfl, by rw [HE.out], hid (grow_alloc _ _)⟩
  case round =>
    obtain ⟨k, hk, hn, rfl, rfl, hB⟩ := hrel
    clear hcv
    by_cases hlt : k < xs.length
    · have k0 : (0 : Int) ≤ (k : Int) := by omega
      have k1 : (k : Int) < (xs.length : Int) := by omega
      obtain ⟨ad, rfl, hc⟩ := HX.out.at_ k hlt
      have hc' : wr.cell? (ad.add k) = some (.string (xs.getD k ByteArray.empty)) := grow_cell hc hB.out
      have hsum : (textOf name (xs.take k)).length + (8 + (xs.getD k ByteArray.empty).size) ≤ 140737488355328 := by
        have h1 := textOf_take_le name xs (k + 1)
        rw [textOf_snoc name xs k hlt] at h1
        simp only [List.length_append, bl_length, be_length] at h1
        have := HL.out
        omega
      have HN := hid (show bs (textOf name (xs.take k)) ++ (bs (be 8 (xs.getD k ByteArray.empty).size) ++ xs.getD k ByteArray.empty) = bs (textOf name (xs.take (k + 1))) by
        rw [textOf_snoc name xs k hlt, ← bs_append, ← bs_append, bs_bl])
      have hs2 : (bs (textOf name (xs.take k))).size = (textOf name (xs.take k)).length := bs_size _
      have hlen8 : (bs (be 8 (xs.getD k ByteArray.empty).size)).size = 8 := by rw [bs_size, be_length]
      generalize xs.getD k ByteArray.empty = s at *
      generalize (textOf name (xs.take k)).length = m at *
      generalize bs (textOf name (xs.take k)) = c2 at *
      clear hc
      go_wp2_with fail
      refine (refNumber8 s.size (by omega) wr).mono ?_
      rintro e w2 ⟨rfl, hb2⟩
      have HB2 := hid (Grow.trans hB.out hb2)
      have hc2 := grow_cell hc' hb2
      clear hb2 hc'
      generalize bs (be 8 s.size) = q at *
      go_wp2
      go_roundg (xs.length - (k + 1) + 1)
      case rel => exact ⟨k + 1, by omega, rfl, by go_num, by rw [HN.out], HB2⟩
      case measure => omega
    · have HE2 := hid (textOf_all name xs k (by omega))
      rw [HE2.out]
      go_wp2
      go_ret
      exact ⟨rfl, hB.out⟩
theorem refOf (name : ByteArray) (A : Option Addr) (n c : Nat) (xs : List ByteArray) (w : World) (hx : StrRow w A xs) (hn : xs.length = n) (hname : name.size ≤ 255) (hlen : (textOf name xs).length ≤ 140737488355328) :
    Calls Tryz.prog 70 #[.string name, .slice A n c] w fun e w' => e = .returned (idV (tagSum name xs)) ∧ Below w.heap.size w w' := by
  have HX := hid hx
  clear hx
  go_enter Tryz.func70, Tryz.ntmps70
  apply wp_seq_k; intro _ _; apply wp_region_lit
  refine op_alloc rfl rfl ?_
  intro gr W hgl hgu hb hr
  have HR := hid hr; have HB := hid hb; have HRL := hid hgl; have HRU := hid hgu
  clear hr hb hgl hgu
  try simp only [Act.put, List.setIfInBounds_toArray, List.set_cons_zero, List.set_cons_succ]
  replace HX := hid (HX.out.grow HB.out)
  go_wp2_with fail
  refine (refText name A n c xs _ HX.out hn hname hlen).mono ?_
  rintro e w1 ⟨rfl, hb⟩
  replace HR := hid (grow_block HR.out hb)
  replace HB := hid (Grow.trans HB.out hb)
  replace HX := hid (HX.out.grow hb)
  clear hb
  go_wp2_with fail
  refine (refSum (textOf name xs) hlen _).mono ?_
  rintro e w2 ⟨rfl, hb⟩
  replace HR := hid (grow_block HR.out hb)
  replace HB := hid (Grow.trans HB.out hb)
  replace HX := hid (HX.out.grow hb)
  clear hb
  go_wp2_with (first |  (refine op_buildId rfl rfl ?_) | (refine op_storeId (l := tagSum name xs) rfl rfl rfl rfl rfl HR.out (by rfl) (tagSum_length name xs) ?_))
  intro wz hz _ hbz
  have HZ := hid hz; have HBZ := hid (hbz _ _ HB.out HRL.out)
  clear hz hbz
  go_wp2_with fail
  refine bodyPost_ret (ret_id rfl rfl HZ.out (tagSum_length name xs)) rfl ⟨?_, HBZ.out⟩
  rfl
end Go.Proofs.YtabkaflccaklhaaGreat
end
section
/- A number as one byte, or two. -/
namespace Go.Proofs.YtabkaflccaklhaaGreat
open Go.RowKit
open Go.Qk hiding rotr b4
set_option maxHeartbeats 1000000
set_option maxRecDepth 100000
def beG (n k v : Nat) : List UInt8 := List.replicate k 0 ++ be (n - k) v
theorem beG_length (n k v : Nat) (h : k ≤ n) : (beG n k v).length = n := by simp [beG, be_length]; omega
theorem beG_step (n k v : Nat) (h : k < n) : (u8s (beG n (k + 1) v)).toArray.setIfInBounds k (.int .u8 (((v / 256 ^ (n - 1 - k) % 256 : Nat) : Int))) = (u8s (beG n k v)).toArray := by
  have h1 : beG n k v = List.replicate k 0 ++ UInt8.ofNat (v / 256 ^ (n - 1 - k) % 256) :: be (n - 1 - k) v := by
    rw [beG, show n - k = (n - 1 - k) + 1 from by omega, be_cons]
  have h2 : beG n (k + 1) v = List.replicate k 0 ++ 0 :: be (n - 1 - k) v := by
    rw [beG, show n - (k + 1) = n - 1 - k from by omega, List.replicate_succ']
    simp
  rw [h1, h2, ← u8_of _ (Nat.mod_lt _ (by omega))]
  simp [u8s]
theorem refPower (n : Nat) (hn : n ≤ 7) (w : World) : Calls Tryz.prog 146 #[.int .i64 n] w fun e w' => e = .returned (.int .u64 ((256 ^ n : Nat) : Int)) ∧ Below w.heap.size w w' := by
  go_enter Tryz.func146, Tryz.ntmps146
  go_wp2
  go_loopg [3, 4] (n + 1) (fun q x i wr => ∃ k : Nat, k ≤ n ∧ q = n + 1 - k ∧ i = .int .i64 k ∧ x = .int .u64 ((256 ^ k : Nat) : Int) ∧ Hid (Grow w wr))
  case atStart => exact ⟨0, by omega, rfl, rfl, rfl, hid (grow_refl _)⟩
  case round =>
    obtain ⟨k, hk, hq, rfl, rfl, hB⟩ := hrel
    by_cases hlt : k < n
    · have hp : 256 ^ k ≤ 256 ^ 6 := Nat.pow_le_pow_right (by omega) (by omega)
      have hp2 : 256 ^ k < 2 ^ 50 := by omega
      have HE := hid (show ((256 ^ (k + 1) : Nat) : Int) = 256 * ((256 ^ k : Nat) : Int) by rw [Nat.pow_succ]; simp; omega)
      clear hp
      generalize 256 ^ k = x at *
      go_wp2
      go_roundg (n + 1 - (k + 1))
      case rel => exact ⟨k + 1, by omega, rfl, by go_num, by rw [HE.out], hB⟩
      case measure => omega
    · obtain rfl : k = n := by omega
      go_wp2
      go_ret
      exact ⟨rfl, hB.out⟩
theorem number1 (v : Nat) (hv : v < 256) (w : World) :
    Calls Tryz.prog 139 #[.int .u64 v, .int .i64 1] w fun e w' => e = .returned (.tuple #[.string (bs (be 1 v)), .bool true]) ∧ Below w.heap.size w w' := by
  have hmk : ∀ w, (Instr.makeSlice 85 (.int .i64 1) (.int .i64 1)).run Tryz.prog w = .ok (.slice (some ⟨w.heap.size, 0, none⟩) 1 1) (w.alloc (.cells (u8s (beG 1 1 v)).toArray 5)) := fun _ => by kernel_rfl
  have hv2 : (v : Int) < 256 := by omega
  have hsh : (v : Int) / 256 = 0 := by omega
  go_enter Tryz.func139, Tryz.ntmps139
  go_wp2
  go_loopg [0, 7] 2 (fun n x i wr => ∃ k : Nat, k ≤ 1 ∧ n = k + 1 ∧ i = .int .i64 ((k : Int) - 1) ∧ x = .int .u64 ((v / 256 ^ (1 - k) : Nat) : Int) ∧ Hid (wr.heap[w.heap.size]? = some (.cells (u8s (beG 1 k v)).toArray 5 (0, 0))) ∧ Hid (Below w.heap.size w wr))
  case atStart => exact ⟨1, by omega, by omega, rfl, by simp, heap_alloc_new _ _, (Below.refl _ _).alloc (Nat.le_refl _) _⟩
  case round =>
    obtain ⟨k, hk, hn, rfl, rfl, hg, hb⟩ := hrel
    clear hmk hsh
    cases k with
    | zero =>
      have hcv := run_str_block (P := Tryz.prog) wr 85 5 9 5 Tryz.underlying85 Tryz.underlying5 Tryz.underlying9 w.heap.size 1 (beG 1 0 v) (0, 0) hg.out 1 (beG_length 1 0 v (by omega))
      go_wp2
      go_ret2
      exact ⟨rfl, hb.out⟩
    | succ k =>
      have hlt := beG_length 1 (k + 1) v (by omega)
      have c1 : wr.cell? ⟨w.heap.size, k, none⟩ = some (.int .u8 (b8 (beG 1 (k + 1) v) k)) := cell_u8 hg.out (grow_refl _) k (by omega)
      have f1 : wr.frozen? ⟨w.heap.size, k, none⟩ = false := frozen_of_row wr _ k _ _ hg.out
      have k1 : (k : Int) < 1 := by omega
      have hy : ((v / 256 ^ (1 - (k + 1)) : Nat) : Int) < 256 := by have := Nat.div_le_self v (256 ^ (1 - (k + 1))); omega
      have HY := hid (show ((v / 256 ^ (1 - k) : Nat) : Int) = ((v / 256 ^ (1 - (k + 1)) : Nat) : Int) / 256 by
        rw [show 1 - k = (1 - (k + 1)) + 1 from by omega, Nat.pow_succ, ← Nat.div_div_eq_div_mul]
        simp)
      have HZ := hid (beG_step 1 k v (by omega))
      rw [show 1 - 1 - k = 1 - (k + 1) from by omega] at HZ
      generalize v / 256 ^ (1 - (k + 1)) = y at *
      go_wp2
      go_roundg (k + 1)
      case rel =>
        refine ⟨k, by omega, rfl, by go_num, ?_, ?_, (hb.out).setCell (Nat.le_refl _) _⟩
        · rw [HY.out]
        · have h2 := heap_setCell_same wr w.heap.size k (u8s (beG 1 (k + 1) v)).toArray 5 (.int .u8 ((y % 256 : Nat) : Int)) hg.out
          rw [HZ.out] at h2
          first | exact h2 | (rw [show y % 256 = y from by omega] at h2; exact h2)
      case measure => omega
theorem refNumber1 (v : Nat) (hv : v < 256) (w : World) :
    Calls Tryz.prog 113 #[.int .u64 v, .int .i64 1] w fun e w' => e = .returned (.tuple #[.string (bs (be 1 v)), .bool true]) ∧ Below w.heap.size w w' := by
  have hv2 : (v : Int) < 256 := by omega
  go_enter Tryz.func113, Tryz.ntmps113
  go_wp2_with fail
  refine (refPower 1 (by omega) _).mono ?_
  rintro e w1 ⟨rfl, hb⟩
  obtain ⟨p, hp⟩ : ∃ p : Int, ((256 ^ 1 : Nat) : Int) = p := ⟨_, rfl⟩
  have hvp : (v : Int) < p := by rw [← hp]; simpa using hv2
  rw [hp]
  have HG := hid hb
  have HV := hid hv
  clear hp hb hv hv2
  go_wp2_with fail
  go_loopg [0, 6, 7] 2 (fun q x s i wr => ∃ k : Nat, k ≤ 1 ∧ q = 2 - k ∧ i = .int .i64 k ∧ x = .int .u64 ((v / 256 ^ k : Nat) : Int) ∧ s = .string (bs (be k v)) ∧ Hid (Grow w wr))
  case atStart => exact ⟨0, by omega, rfl, rfl, by simp, rfl, HG⟩
  case round =>
    obtain ⟨k, hk, hq, rfl, rfl, rfl, hB⟩ := hrel
    clear HG
    have hv := HV.out
    by_cases hlt : k < 1
    · have hbe := be_cons k v
      have hy : ((v / 256 ^ k : Nat) : Int) < 256 := by have := Nat.div_le_self v (256 ^ k); omega
      have HY := hid (show ((v / 256 ^ (k + 1) : Nat) : Int) = ((v / 256 ^ k : Nat) : Int) / 256 by
        rw [Nat.pow_succ, ← Nat.div_div_eq_div_mul]
        simp)
      have H3 := hid (show bs [UInt8.ofNat (v / 256 ^ k % 256)] ++ bs (be k v) = bs (be (k + 1) v) by rw [bs_append, hbe]; rfl)
      have hs1 : (bs [UInt8.ofNat (v / 256 ^ k % 256)]).size = 1 := by rw [bs_size]; rfl
      have hs2 : (bs (be k v)).size = k := by rw [bs_size, be_length]
      have hcv := byte_str wr (v / 256 ^ k % 256) (Nat.mod_lt _ (by omega))
      generalize bs (be k v) = c2 at *
      generalize v / 256 ^ k = y at *
      have hm : ((y % 256 : Nat) : Int) = (y : Int) % 256 := by simp
      rw [hm] at hcv
      clear hm hbe
      generalize bs [UInt8.ofNat (y % 256)] = c1 at *
      have hwr : IntKind.u64.wrap ((y : Int) / 256) = (y : Int) / 256 := by simp [IntKind.wrap, IntKind.signed, IntKind.bits]; omega
      clear hv hy hvp
      go_wp2
      go_roundg (2 - (k + 1))
      case rel => exact ⟨k + 1, by omega, rfl, by go_num, by rw [HY.out], by rw [H3.out], hid (hB.out.trans (grow_alloc _ _))⟩
      case measure => omega
    · obtain rfl : k = 1 := by omega
      go_wp2
      go_ret2
      exact ⟨rfl, hB.out⟩
theorem number2 (v : Nat) (hv : v < 65536) (w : World) :
    Calls Tryz.prog 139 #[.int .u64 v, .int .i64 2] w fun e w' => e = .returned (.tuple #[.string (bs (be 2 v)), .bool true]) ∧ Below w.heap.size w w' := by
  have hmk : ∀ w, (Instr.makeSlice 85 (.int .i64 2) (.int .i64 2)).run Tryz.prog w = .ok (.slice (some ⟨w.heap.size, 0, none⟩) 2 2) (w.alloc (.cells (u8s (beG 2 2 v)).toArray 5)) := fun _ => by kernel_rfl
  have hv2 : (v : Int) < 65536 := by omega
  have hsh : (v : Int) / 65536 = 0 := by omega
  go_enter Tryz.func139, Tryz.ntmps139
  go_wp2
  go_loopg [0, 7] 3 (fun n x i wr => ∃ k : Nat, k ≤ 2 ∧ n = k + 1 ∧ i = .int .i64 ((k : Int) - 1) ∧ x = .int .u64 ((v / 256 ^ (2 - k) : Nat) : Int) ∧ Hid (wr.heap[w.heap.size]? = some (.cells (u8s (beG 2 k v)).toArray 5 (0, 0))) ∧ Hid (Below w.heap.size w wr))
  case atStart => exact ⟨2, by omega, by omega, rfl, by simp, heap_alloc_new _ _, (Below.refl _ _).alloc (Nat.le_refl _) _⟩
  case round =>
    obtain ⟨k, hk, hn, rfl, rfl, hg, hb⟩ := hrel
    clear hmk hsh
    cases k with
    | zero =>
      have hcv := run_str_block (P := Tryz.prog) wr 85 5 9 5 Tryz.underlying85 Tryz.underlying5 Tryz.underlying9 w.heap.size 2 (beG 2 0 v) (0, 0) hg.out 2 (beG_length 2 0 v (by omega))
      go_wp2
      go_ret2
      exact ⟨rfl, hb.out⟩
    | succ k =>
      have hlt := beG_length 2 (k + 1) v (by omega)
      have c1 : wr.cell? ⟨w.heap.size, k, none⟩ = some (.int .u8 (b8 (beG 2 (k + 1) v) k)) := cell_u8 hg.out (grow_refl _) k (by omega)
      have f1 : wr.frozen? ⟨w.heap.size, k, none⟩ = false := frozen_of_row wr _ k _ _ hg.out
      have k1 : (k : Int) < 2 := by omega
      have hy : ((v / 256 ^ (2 - (k + 1)) : Nat) : Int) < 65536 := by have := Nat.div_le_self v (256 ^ (2 - (k + 1))); omega
      have HY := hid (show ((v / 256 ^ (2 - k) : Nat) : Int) = ((v / 256 ^ (2 - (k + 1)) : Nat) : Int) / 256 by
        rw [show 2 - k = (2 - (k + 1)) + 1 from by omega, Nat.pow_succ, ← Nat.div_div_eq_div_mul]
        simp)
      have HZ := hid (beG_step 2 k v (by omega))
      rw [show 2 - 1 - k = 2 - (k + 1) from by omega] at HZ
      generalize v / 256 ^ (2 - (k + 1)) = y at *
      go_wp2
      go_roundg (k + 1)
      case rel =>
        refine ⟨k, by omega, rfl, by go_num, ?_, ?_, (hb.out).setCell (Nat.le_refl _) _⟩
        · rw [HY.out]
        · have h2 := heap_setCell_same wr w.heap.size k (u8s (beG 2 (k + 1) v)).toArray 5 (.int .u8 ((y % 256 : Nat) : Int)) hg.out
          rw [HZ.out] at h2
          first | exact h2 | (rw [show y % 256 = y from by omega] at h2; exact h2)
      case measure => omega
theorem refNumber2 (v : Nat) (hv : v < 65536) (w : World) :
    Calls Tryz.prog 113 #[.int .u64 v, .int .i64 2] w fun e w' => e = .returned (.tuple #[.string (bs (be 2 v)), .bool true]) ∧ Below w.heap.size w w' := by
  have hv2 : (v : Int) < 65536 := by omega
  go_enter Tryz.func113, Tryz.ntmps113
  go_wp2_with fail
  refine (refPower 2 (by omega) _).mono ?_
  rintro e w1 ⟨rfl, hb⟩
  obtain ⟨p, hp⟩ : ∃ p : Int, ((256 ^ 2 : Nat) : Int) = p := ⟨_, rfl⟩
  have hvp : (v : Int) < p := by rw [← hp]; simpa using hv2
  rw [hp]
  have HG := hid hb
  have HV := hid hv
  clear hp hb hv hv2
  go_wp2_with fail
  go_loopg [0, 6, 7] 3 (fun q x s i wr => ∃ k : Nat, k ≤ 2 ∧ q = 3 - k ∧ i = .int .i64 k ∧ x = .int .u64 ((v / 256 ^ k : Nat) : Int) ∧ s = .string (bs (be k v)) ∧ Hid (Grow w wr))
  case atStart => exact ⟨0, by omega, rfl, rfl, by simp, rfl, HG⟩
  case round =>
    obtain ⟨k, hk, hq, rfl, rfl, rfl, hB⟩ := hrel
    clear HG
    have hv := HV.out
    by_cases hlt : k < 2
    · have hbe := be_cons k v
      have hy : ((v / 256 ^ k : Nat) : Int) < 65536 := by have := Nat.div_le_self v (256 ^ k); omega
      have HY := hid (show ((v / 256 ^ (k + 1) : Nat) : Int) = ((v / 256 ^ k : Nat) : Int) / 256 by
        rw [Nat.pow_succ, ← Nat.div_div_eq_div_mul]
        simp)
      have H3 := hid (show bs [UInt8.ofNat (v / 256 ^ k % 256)] ++ bs (be k v) = bs (be (k + 1) v) by rw [bs_append, hbe]; rfl)
      have hs1 : (bs [UInt8.ofNat (v / 256 ^ k % 256)]).size = 1 := by rw [bs_size]; rfl
      have hs2 : (bs (be k v)).size = k := by rw [bs_size, be_length]
      have hcv := byte_str wr (v / 256 ^ k % 256) (Nat.mod_lt _ (by omega))
      generalize bs (be k v) = c2 at *
      generalize v / 256 ^ k = y at *
      have hm : ((y % 256 : Nat) : Int) = (y : Int) % 256 := by simp
      rw [hm] at hcv
      clear hm hbe
      generalize bs [UInt8.ofNat (y % 256)] = c1 at *
      have hwr : IntKind.u64.wrap ((y : Int) / 256) = (y : Int) / 256 := by simp [IntKind.wrap, IntKind.signed, IntKind.bits]; omega
      clear hv hy hvp
      go_wp2
      go_roundg (3 - (k + 1))
      case rel => exact ⟨k + 1, by omega, rfl, by go_num, by rw [HY.out], by rw [H3.out], hid (hB.out.trans (grow_alloc _ _))⟩
      case measure => omega
    · obtain rfl : k = 2 := by omega
      go_wp2
      go_ret2
      exact ⟨rfl, hB.out⟩
end Go.Proofs.YtabkaflccaklhaaGreat
end
section
/- tag.Pair, tag.Chain, their references: contracts. -/
namespace Go.Proofs.YtabkaflccaklhaaGreat
open Go.RowKit
open Go.Qk hiding rotr b4
set_option maxHeartbeats 1000000
set_option maxRecDepth 100000
/-- A name that is cut, if it is too long. -/
def cutName (name : ByteArray) : ByteArray := name.extract 0 (min name.size 255)
theorem cutName_size (name : ByteArray) : (cutName name).size ≤ 255 := by unfold cutName; rw [ByteArray.size_extract]; omega
theorem cutName_short (name : ByteArray) (h : name.size ≤ 255) : cutName name = name := by
  unfold cutName
  rw [Nat.min_eq_left h]
  exact ByteArray.extract_zero_size
theorem tagSumF (name : ByteArray) (A : Option Addr) (n c : Nat) (xs : List ByteArray) (w : World) (hx : StrRow w A xs) (hn : xs.length = n) (hsz : name.size ≤ 9223372036854775807) (hlen : (textOf (cutName name) xs).length ≤ 140737488355328) :
    Calls Tryz.prog 158 #[.string name, .slice A n c] w fun e w' => e = .returned (idV (tagSum (cutName name) xs)) ∧ Below w.heap.size w w' := by
  have HX := hid hx
  have HC := hid (cutName_size name)
  have HL := hid hlen
  have HTL := hid (tagSum_length (cutName name) xs)
  have hcut : cutName name = name.extract 0 (min name.size 255) := rfl
  have hmn : (min (name.size : Int) 255) = ((min name.size 255 : Nat) : Int) := by omega
  have hm1 : min name.size 255 ≤ name.size := Nat.min_le_left _ _
  generalize min name.size 255 = m at *
  generalize cutName name = cn at *
  have HCUT := hid hcut
  clear hx hcut hlen
  go_enter Tryz.func158, Tryz.ntmps158
  apply wp_seq_k; intro _ _; apply wp_region_lit
  refine op_alloc rfl rfl ?_
  intro gr W hgl hgu hb hr
  have HR := hid hr; have HB := hid hb; have HRL := hid hgl; have HRU := hid hgu
  clear hr hb hgl hgu
  try simp only [Act.put, List.setIfInBounds_toArray, List.set_cons_zero, List.set_cons_succ]
  replace HX := hid (HX.out.grow HB.out)
  refine wpList_nil ?_
  go_wp2_with fail
  rw [← HCUT.out]
  refine (tagOf cn A n c xs _ HX.out hn HC.out HL.out).mono ?_
  rintro e w1 ⟨rfl, hb⟩
  replace HR := hid (grow_block HR.out hb)
  replace HB := hid (Grow.trans HB.out hb)
  replace HX := hid (HX.out.grow hb)
  clear hb
  go_wp2_with (first |  (refine op_allocstore (l := tagSum cn xs) rfl rfl rfl rfl rfl rfl (fun _ => rfl) ⟨fun _ => rfl, HTL.out⟩ ?_))
  intro g5 w2 hgl hgu hb hr
  have H5L := hid (Nat.le_trans HB.out.size hgl)
  replace HR := hid (grow_block HR.out hb)
  replace HB := hid (Grow.trans HB.out hb)
  replace HX := hid (HX.out.grow hb)
  have H5 := hid hr; have H5U := hid hgu
  clear hr hgl hgu hb
  try simp only [Act.put, List.setIfInBounds_toArray, List.set_cons_zero, List.set_cons_succ]
  go_wp2_with (first | (refine op_loadId rfl rfl rfl H5.out (HTL.out) ?_) |  (refine op_buildId rfl rfl ?_) | (refine op_storeId (l := tagSum cn xs) rfl rfl rfl rfl rfl HR.out (by rfl) (HTL.out) ?_))
  intro wz hz _ hbz
  have HZ := hid hz; have HBZ := hid (hbz _ _ HB.out HRL.out)
  clear hz hbz
  go_wp2_with fail
  refine bodyPost_ret (ret_id rfl rfl HZ.out (HTL.out)) rfl ⟨?_, HBZ.out⟩
  rfl
/-- The sum of two. -/
def pairOf (name : ByteArray) (a b : List UInt8) : List UInt8 := tagSum (cutName name) [bs a, bs b]
theorem pairOf_length (name : ByteArray) (a b : List UInt8) : (pairOf name a b).length = 32 := tagSum_length _ _
theorem textOf_two (name : ByteArray) (a b : List UInt8) (hn : name.size ≤ 255) (ha : a.length ≤ 1000000) (hb : b.length ≤ 1000000) : (textOf name [bs a, bs b]).length ≤ 140737488355328 := by
  simp [textOf, partsOf, be_length, bl_length, bs_size]
  omega
theorem tagPair (name : ByteArray) (a b : List UInt8) (ha : a.length = 32) (hb : b.length = 32) (hsz : name.size ≤ 9223372036854775807) (w : World) :
    Calls Tryz.prog 159 #[.string name, idV a, idV b] w fun e w' => e = .returned (idV (pairOf name a b)) ∧ Below w.heap.size w w' := by
  have HA := hid ha
  have HBL := hid hb
  have HTL := hid (pairOf_length name a b)
  have HTX := hid (textOf_two (cutName name) a b (cutName_size name) (by omega) (by omega))
  clear ha hb
  go_enter Tryz.func159, Tryz.ntmps159
  have HB := hid (grow_refl w)
  apply wp_seq_k; intro _ _; apply wp_region_lit
  refine op_box (l := a) rfl rfl rfl ?_
  intro gx w1 hgl hgu hb hr
  have XL := hid (Nat.le_trans HB.out.size hgl)
  replace HB := hid (Grow.trans HB.out hb)
  have X := hid hr; have XU := hid hgu
  clear hr hgl hgu hb
  try simp only [Act.put, List.setIfInBounds_toArray, List.set_cons_zero, List.set_cons_succ]
  refine op_box (l := b) rfl rfl rfl ?_
  intro gy w2 hgl hgu hb hr
  have YL := hid (Nat.le_trans HB.out.size hgl)
  replace HB := hid (Grow.trans HB.out hb)
  replace X := hid (grow_block X.out hb)
  have Y := hid hr; have YU := hid hgu
  clear hr hgl hgu hb
  try simp only [Act.put, List.setIfInBounds_toArray, List.set_cons_zero, List.set_cons_succ]
  refine op_alloc rfl rfl ?_
  intro gr w3 hgl hgu hb hr
  have HRL := hid (Nat.le_trans HB.out.size hgl)
  replace HB := hid (Grow.trans HB.out hb)
  replace X := hid (grow_block X.out hb)
  replace Y := hid (grow_block Y.out hb)
  have HR := hid hr; have HRU := hid hgu
  clear hr hgl hgu hb
  try simp only [Act.put, List.setIfInBounds_toArray, List.set_cons_zero, List.set_cons_succ]
  refine wpList_nil ?_
  have hcx : ∀ w', Grow w3 w' → (convert 85 9 (.slice (some ⟨gx, 0, none⟩) 32 32)).run Tryz.prog w' = .ok (.string (bs a)) w' := fun w' h => run_strId (grow_block X.out h) HA.out
  have hcy : ∀ w', Grow w3 w' → (convert 85 9 (.slice (some ⟨gy, 0, none⟩) 32 32)).run Tryz.prog w' = .ok (.string (bs b)) w' := fun w' h => run_strId (grow_block Y.out h) HBL.out
  go_wp2_with fail
  (refine' wp_region_head 7 1 [_, _, _, _, _, _, _] rfl (by kernel_rfl) (by kernel_rfl) ?hreg1; case' hreg1 => simp only [List.take_succ_cons, List.take_zero, List.zip_cons_cons, List.zip_nil_right, List.drop_succ_cons, List.drop_zero, List.drop_nil])
  (iterate 5 (refine' head_val ?_ ?_ ?_ ?_; rotate_left; (· rfl); (· first | exact fun _ _ _ => trivial | (intro t ht w; cases ht; simp [upE])); (· intro w' hw' _; go_simp; with_reducible rfl); simp only [Act.put, List.setIfInBounds_toArray, List.set_cons_zero, List.set_cons_succ]))
  (refine' head_row [.string (bs a), .string (bs b)] 2 9 ?_ ?_ ?_; (· rfl); (· intro w; first | (go_simp; done) | (go_simp; first | with_reducible rfl | rfl)); intro g12; simp only [Act.put, List.setIfInBounds_toArray, List.set_cons_zero, List.set_cons_succ])
  (refine' head_call ?cw2 ?ce2 ?cr2 ?cc2 ?ch2; (case' cw2 => rfl); (case' ce2 => (first | exact fun _ _ _ => trivial | (intro t ht w; cases ht; simp [upE]))); (case' cr2 => (intro w'; go_simp; first | exact ⟨rfl, rfl⟩ | with_reducible rfl)); (case' cc2 => (intro w' hw' hE; exact tagSumF name _ _ _ [bs a, bs b] w' (strRow_cells (row_at (hE 12 (by decide))) (by simp)) rfl hsz HTX.out)); (case' ch2 => (try simp only [Act.put, List.setIfInBounds_toArray, List.set_cons_zero, List.set_cons_succ])))
  clear hcx hcy
  refine head_nil ?_
  intro w4 hb _
  replace HB := hid (Grow.trans HB.out hb)
  replace X := hid (grow_block X.out hb)
  replace Y := hid (grow_block Y.out hb)
  replace HR := hid (grow_block HR.out hb)
  clear hb
  go_wp2_with (first |  (refine op_buildId rfl rfl ?_) | (refine op_storeId (l := pairOf name a b) rfl rfl rfl rfl rfl HR.out (by rfl) (HTL.out) ?_))
  intro wz hz _ hbz
  have HZ := hid hz; have HBZ := hid (hbz _ _ HB.out HRL.out)
  clear hz hbz
  go_wp2_with fail
  refine bodyPost_ret (ret_id rfl rfl HZ.out (HTL.out)) rfl ⟨?_, HBZ.out⟩
  rfl
theorem refPair (name : ByteArray) (a b : List UInt8) (ha : a.length = 32) (hb : b.length = 32) (hsz : name.size ≤ 255) (w : World) :
    Calls Tryz.prog 115 #[.string name, idV a, idV b] w fun e w' => e = .returned (idV (pairOf name a b)) ∧ Below w.heap.size w w' := by
  have HA := hid ha
  have HBL := hid hb
  have HTL := hid (pairOf_length name a b)
  have HTX := hid (textOf_two name a b hsz (by omega) (by omega))
  have HE := hid (show pairOf name a b = tagSum name [bs a, bs b] by unfold pairOf; rw [cutName_short name hsz])
  clear ha hb
  rw [HE.out] at HTL ⊢
  go_enter Tryz.func115, Tryz.ntmps115
  have HB := hid (grow_refl w)
  apply wp_seq_k; intro _ _; apply wp_region_lit
  refine op_box (l := a) rfl rfl rfl ?_
  intro gx w1 hgl hgu hb hr
  have XL := hid (Nat.le_trans HB.out.size hgl)
  replace HB := hid (Grow.trans HB.out hb)
  have X := hid hr; have XU := hid hgu
  clear hr hgl hgu hb
  try simp only [Act.put, List.setIfInBounds_toArray, List.set_cons_zero, List.set_cons_succ]
  refine op_box (l := b) rfl rfl rfl ?_
  intro gy w2 hgl hgu hb hr
  have YL := hid (Nat.le_trans HB.out.size hgl)
  replace HB := hid (Grow.trans HB.out hb)
  replace X := hid (grow_block X.out hb)
  have Y := hid hr; have YU := hid hgu
  clear hr hgl hgu hb
  try simp only [Act.put, List.setIfInBounds_toArray, List.set_cons_zero, List.set_cons_succ]
  refine op_alloc rfl rfl ?_
  intro gr w3 hgl hgu hb hr
  have HRL := hid (Nat.le_trans HB.out.size hgl)
  replace HB := hid (Grow.trans HB.out hb)
  replace X := hid (grow_block X.out hb)
  replace Y := hid (grow_block Y.out hb)
  have HR := hid hr; have HRU := hid hgu
  clear hr hgl hgu hb
  try simp only [Act.put, List.setIfInBounds_toArray, List.set_cons_zero, List.set_cons_succ]
  refine wpList_nil ?_
  go_wp2_with fail
  (refine' wp_region_head 7 1 [_, _, _, _, _, _, _] rfl (by kernel_rfl) (by kernel_rfl) ?hreg3; case' hreg3 => simp only [List.take_succ_cons, List.take_zero, List.zip_cons_cons, List.zip_nil_right, List.drop_succ_cons, List.drop_zero, List.drop_nil])
  (refine' head_val ?_ ?_ ?_ ?_; rotate_left; (· rfl); (· first | exact fun _ _ _ => trivial | (intro t ht w; cases ht; simp [upE])); (· intro w' hw' _; go_simp; with_reducible rfl); simp only [Act.put, List.setIfInBounds_toArray, List.set_cons_zero, List.set_cons_succ])
  (refine' head_loadId (x := _) rfl ?_ rfl rfl X.out (HA.out) ?_; (first | exact fun _ _ _ => trivial | (intro t ht w; cases ht; simp [upE])); try simp only [Act.put, List.setIfInBounds_toArray, List.set_cons_zero, List.set_cons_succ])
  (refine' head_call ?cw4 ?ce4 ?cr4 ?cc4 ?ch4; (case' cw4 => rfl); (case' ce4 => (first | exact fun _ _ _ => trivial | (intro t ht w; cases ht; simp [upE]))); (case' cr4 => (intro w'; go_simp; first | exact ⟨rfl, rfl⟩ | with_reducible rfl)); (case' cc4 => (intro w' hw' _; exact ref3Bytes a HA.out w')); (case' ch4 => (try simp only [Act.put, List.setIfInBounds_toArray, List.set_cons_zero, List.set_cons_succ])))
  (refine' head_loadId (x := _) rfl ?_ rfl rfl Y.out (HBL.out) ?_; (first | exact fun _ _ _ => trivial | (intro t ht w; cases ht; simp [upE])); try simp only [Act.put, List.setIfInBounds_toArray, List.set_cons_zero, List.set_cons_succ])
  (refine' head_call ?cw5 ?ce5 ?cr5 ?cc5 ?ch5; (case' cw5 => rfl); (case' ce5 => (first | exact fun _ _ _ => trivial | (intro t ht w; cases ht; simp [upE]))); (case' cr5 => (intro w'; go_simp; first | exact ⟨rfl, rfl⟩ | with_reducible rfl)); (case' cc5 => (intro w' hw' _; exact ref3Bytes b HBL.out w')); (case' ch5 => (try simp only [Act.put, List.setIfInBounds_toArray, List.set_cons_zero, List.set_cons_succ])))
  (refine' head_row [.string (bs a), .string (bs b)] 2 9 ?_ ?_ ?_; (· rfl); (· intro w; first | (go_simp; done) | (go_simp; first | with_reducible rfl | rfl)); intro g12; simp only [Act.put, List.setIfInBounds_toArray, List.set_cons_zero, List.set_cons_succ])
  (refine' head_call ?cw6 ?ce6 ?cr6 ?cc6 ?ch6; (case' cw6 => rfl); (case' ce6 => (first | exact fun _ _ _ => trivial | (intro t ht w; cases ht; simp [upE]))); (case' cr6 => (intro w'; go_simp; first | exact ⟨rfl, rfl⟩ | with_reducible rfl)); (case' cc6 => (intro w' hw' hE; exact refOf name _ _ _ [bs a, bs b] w' (strRow_cells (row_at (hE 12 (by decide))) (by simp)) rfl hsz HTX.out)); (case' ch6 => (try simp only [Act.put, List.setIfInBounds_toArray, List.set_cons_zero, List.set_cons_succ])))
  refine head_nil ?_
  intro w4 hb _
  replace HB := hid (Grow.trans HB.out hb)
  replace X := hid (grow_block X.out hb)
  replace Y := hid (grow_block Y.out hb)
  replace HR := hid (grow_block HR.out hb)
  clear hb
  go_wp2_with (first |  (refine op_buildId rfl rfl ?_) | (refine op_storeId (l := tagSum name [bs a, bs b]) rfl rfl rfl rfl rfl HR.out (by rfl) (HTL.out) ?_))
  intro wz hz _ hbz
  have HZ := hid hz; have HBZ := hid (hbz _ _ HB.out HRL.out)
  clear hz hbz
  go_wp2_with fail
  refine bodyPost_ret (ret_id rfl rfl HZ.out (HTL.out)) rfl ⟨?_, HBZ.out⟩
  rfl
end Go.Proofs.YtabkaflccaklhaaGreat
end
section
/- Rows of ids, made and read. -/
namespace Go.Qk
open Go.RowKit
section
variable {P : Program}
theorem fold_set : ∀ (l : List Value) (k : Nat) (pre mid post : List Value) (off : Nat), pre.length = off + k → mid.length = l.length →
    (l.zipIdx k).foldl (fun (cs : Array Value) (p : Value × Nat) => cs.setIfInBounds (off + p.2) p.1) (pre ++ mid ++ post).toArray = (pre ++ l ++ post).toArray
  | [], k, pre, mid, post, off, h1, h2 => by
    obtain rfl : mid = [] := List.eq_nil_of_length_eq_zero h2
    simp
  | c :: l, k, pre, m :: mid, post, off, h1, h2 => by
    have e : (pre ++ (m :: mid) ++ post).toArray.setIfInBounds (off + k) c = ((pre ++ [c]) ++ mid ++ post).toArray := by
      rw [List.setIfInBounds_toArray, List.append_assoc, List.set_append_right _ _ (by omega), h1, Nat.sub_self]
      simp
    rw [List.zipIdx_cons, List.foldl_cons]
    simp only
    rw [e, fold_set l (k + 1) (pre ++ [c]) mid post off (by simp; omega) (by simpa using h2)]
    simp
theorem fill_seq (size : Nat) : ∀ (vs : List Value) (css : List (List Value)) (k : Nat) (pre post : List Value), vs.map Value.cells = css.map List.toArray → (∀ c ∈ css, c.length = size) → pre.length = k * size → post.length = vs.length * size →
    Instr.fill (fun i => some (i * size, size)) (pre ++ post).toArray ((vs.zipIdx k).map Prod.swap) = some (pre ++ css.flatten).toArray
  | [], [], k, pre, post, _, _, _, h => by
    obtain rfl : post = [] := List.eq_nil_of_length_eq_zero (by simpa using h)
    simp [Instr.fill]
  | [], _ :: _, _, _, _, h, _, _, _ => by simp at h
  | _ :: _, [], _, _, _, h, _, _, _ => by simp at h
  | v :: vs, c :: css, k, pre, post, h1, h2, h3, h4 => by
    simp only [List.map_cons, List.cons.injEq] at h1
    have hc : c.length = size := h2 c List.mem_cons_self
    rw [List.length_cons, Nat.add_mul, Nat.one_mul] at h4
    have hvs : v.cells.size = size := by rw [h1.1]; simpa using hc
    obtain ⟨mid, post', rfl, hm⟩ : ∃ mid post', post = mid ++ post' ∧ mid.length = size := ⟨post.take size, post.drop size, (List.take_append_drop _ _).symm, by rw [List.length_take]; omega⟩
    rw [List.length_append] at h4
    have hin : ¬ (v.cells.size ≠ size || decide (k * size + v.cells.size > (pre ++ (mid ++ post')).toArray.size)) = true := by
      simp [hvs]
      omega
    rw [List.zipIdx_cons, List.map_cons]
    simp only [Prod.swap, Instr.fill]
    rw [if_neg hin]
    have hf : (v.cells.zipIdx.foldl (fun cs (x : Value × Nat) => cs.setIfInBounds (k * size + x.2) x.1) (pre ++ (mid ++ post')).toArray) = (pre ++ c ++ post').toArray := by
      rw [h1.1, ← Array.foldl_toList]
      have := fold_set c 0 pre mid post' (k * size) (by omega) (by omega)
      rw [List.append_assoc] at this
      simpa using this
    have e : (fun (cs : Array Value) (x : Value × Nat) => match x with | (c, j) => cs.setIfInBounds (k * size + j) c) = fun (cs : Array Value) (x : Value × Nat) => cs.setIfInBounds (k * size + x.2) x.1 := by
      funext cs x; rfl
    show Instr.fill _ (v.cells.zipIdx.foldl (fun cs (x : Value × Nat) => match x with | (c, j) => cs.setIfInBounds (k * size + j) c) (pre ++ (mid ++ post')).toArray) _ = _
    rw [e, hf, fill_seq size vs css (k + 1) (pre ++ c) post' h1.2 (fun d hd => h2 d (List.mem_cons_of_mem _ hd)) (by rw [List.length_append, h3, hc, Nat.add_mul, Nat.one_mul]) (by omega)]
    simp
theorem run_buildSlice (w : World) (t e : TypeId) (size n bytes : Nat) (z : Value) (ht : P.underlying t = some (.slice e)) (hi : (P.info? e).map (fun i => (i.zero, i.size, i.bytes)) = some (some z, size, bytes)) (hz : z.cells.size = size) (hs : 0 < size) (hn : n * size ≤ 16777216) (h0 : 0 < n)
    (vs : List Value) (css : List (List Value)) (hv : vs.map Value.cells = css.map List.toArray) (hc : ∀ c ∈ css, c.length = size) (hl : vs.length = n) :
    (Instr.buildSlice t n ((vs.zipIdx 0).map Prod.swap).toArray).run P w = .ok (.slice (some ⟨w.heap.size, 0, none⟩) n n) (w.alloc (.cells css.flatten.toArray e)) := by
  obtain ⟨i, h1, h2, h3, h4⟩ := info_parts hi
  have hpos : 0 < n * size := Nat.mul_pos h0 hs
  have hf := fill_seq size vs css 0 [] ((Array.range (n * size)).map (fun x => z.cells[x % z.cells.size]!)).toList hv hc (by simp) (by simp [hl])
  simp only [List.nil_append] at hf
  have n1 : ¬ (16777216 < n * size) := by omega
  have n2 : ¬ (n * size = 0) := by omega
  have n3 : ¬ (n = 0 ∨ size = 0) := by omega
  simp only [Array.toArray_toList] at hf
  simp [Instr.buildSlice, run_underlying ht, sizeOf, typeInfo, zeroValue, h1, h2, h3, n1, n2, n3, hf, newRow]
end
def idCells (xs : List (List UInt8)) : List Value := xs.flatMap u8s
theorem idCells_append (xs ys : List (List UInt8)) : idCells (xs ++ ys) = idCells xs ++ idCells ys := by simp [idCells]
theorem idCells_length : ∀ (xs : List (List UInt8)), (∀ s ∈ xs, s.length = 32) → (idCells xs).length = xs.length * 32
  | [], _ => rfl
  | x :: xs, h => by
    have := idCells_length xs (fun s hs => h s (List.mem_cons_of_mem _ hs))
    rw [idCells, List.flatMap_cons, List.length_append, u8s_length, h x List.mem_cons_self]
    unfold idCells at this
    rw [this, List.length_cons]
    omega
theorem idCells_one (xs : List (List UInt8)) : ∀ u ∈ idCells xs, u.oneCell' = true := by
  intro u hu
  obtain ⟨x, _, hx⟩ := List.mem_flatMap.1 hu
  exact u8s_one x u hx
theorem idCells_get : ∀ (xs : List (List UInt8)), (∀ s ∈ xs, s.length = 32) → ∀ (i : Nat), i < xs.length → ∀ j v, (u8s (xs.getD i []))[j]? = some v → (idCells xs)[i * 32 + j]? = some v
  | x :: xs, h, 0, _, j, v, hv => by
    simp only [List.getD_cons_zero] at hv
    have hj := (List.getElem?_eq_some_iff.1 hv).1
    rw [idCells, List.flatMap_cons, List.getElem?_append_left (by omega), Nat.zero_mul, Nat.zero_add]
    exact hv
  | x :: xs, h, i + 1, hi, j, v, hv => by
    have := idCells_get xs (fun s hs => h s (List.mem_cons_of_mem _ hs)) i (by simpa using hi) j v (by simpa using hv)
    have hx := h x List.mem_cons_self
    rw [idCells, List.flatMap_cons, List.getElem?_append_right (by rw [u8s_length]; omega), u8s_length, hx]
    rw [show (i + 1) * 32 + j - 32 = i * 32 + j from by omega]
    exact this
/-- A row of ids of the call's own. -/
def OwnIds (e : TypeId) (B : Nat) (w : World) (v : Value) (xs : List (List UInt8)) : Prop := w.ownsRow B e 32 v xs.length (idCells xs) ∧ ∀ s ∈ xs, s.length = 32
theorem OwnIds.grow {e : TypeId} {B : Nat} {w w1 : World} {v : Value} {xs : List (List UInt8)} (h : OwnIds e B w v xs) (hg : Grow w w1) : OwnIds e B w1 v xs := ⟨own_grow h.1 hg, h.2⟩
theorem OwnIds.base {e : TypeId} {B C : Nat} {w : World} {v : Value} {xs : List (List UInt8)} (h : OwnIds e B w v xs) (hc : C ≤ B) : OwnIds e C w v xs := by
  refine ⟨⟨h.1.1, ?_⟩, h.2⟩
  rcases h.1.2 with h1 | ⟨g, cap, cur, h2, h3, h4⟩
  · exact .inl h1
  · exact .inr ⟨g, cap, cur, h2, Nat.le_trans hc h3, h4⟩
/-- A slice value that reads as ids. -/
def IdSl (w : World) (v : Value) (xs : List (List UInt8)) : Prop := (∃ A c, v = .slice A xs.length c ∧ IdRow w A xs) ∧ ∀ s ∈ xs, s.length = 32
theorem IdSl.grow {w w1 : World} {v : Value} {xs : List (List UInt8)} (h : IdSl w v xs) (hg : Grow w w1) : IdSl w1 v xs := by
  obtain ⟨⟨A, c, e, h1⟩, h2⟩ := h
  exact ⟨⟨A, c, e, h1.grow hg⟩, h2⟩
theorem OwnIds.sl {e : TypeId} {B : Nat} {w : World} {v : Value} {xs : List (List UInt8)} (h : OwnIds e B w v xs) : IdSl w v xs := by
  refine ⟨?_, h.2⟩
  rcases h.1.2 with ⟨rfl, h0⟩ | ⟨g, cap, cur, rfl, hb, hg, hc, hm, _, _⟩
  · obtain rfl : xs = [] := List.eq_nil_of_length_eq_zero h0
    exact ⟨none, 0, rfl, by simp, fun h => absurd rfl h⟩
  · have hmx : maxLen = 9223372036854775807 := rfl
    refine ⟨_, _, rfl, by omega, fun _ => ⟨_, rfl, fun i hi j v hv => ?_⟩⟩
    have h1 := World.ownsRow.cells h.1 (g := g) rfl (i * 32 + j) v (idCells_get xs h.2 i hi j v hv)
    have e2 : (⟨g, i * 32, none⟩ : Addr).add j = ⟨g, i * 32 + j, none⟩ := by unfold Addr.add; split <;> simp_all
    rw [addr_add] at h1
    rw [addr_add, e2]
    exact h1
end Go.Qk
namespace Go.Proofs.YtabkaflccaklhaaGreat
open Go.RowKit
open Go.Qk hiding rotr b4
set_option maxHeartbeats 1000000
set_option maxRecDepth 100000
theorem infoId : (Tryz.prog.info? 42).map (fun i => (i.zero, i.size, i.bytes)) = some (some (idV (zero8 32)), 32, 32) := by kernel_rfl
theorem idV_cells (l : List UInt8) : (idV l).cells = (u8s l).toArray := rfl
section
variable {ops : Array Oper} {Q : Exit → Act → World → Prop} {rest : List Oper} {o o2 : Oper} {a : Act} {w : World}
theorem run_buildIds (w : World) (xs : List (List UInt8)) (n : Nat) (hn : xs.length = n) (h0 : 0 < n) (hmax : n ≤ 1000) (h : ∀ s ∈ xs, s.length = 32) :
    (Instr.buildSlice 56 n (((xs.map idV).zipIdx 0).map Prod.swap).toArray).run Tryz.prog w = .ok (.slice (some ⟨w.heap.size, 0, none⟩) n n) (w.alloc (.cells (idCells xs).toArray 42)) := by
  have := run_buildSlice (P := Tryz.prog) w 56 42 32 n 32 (idV (zero8 32)) Tryz.underlying56 infoId (by simp [idV_cells, u8s_length, zero8]) (by omega) (by omega) h0 (xs.map idV) (xs.map u8s) (by simp [idV_cells]) (fun c hc => by
    obtain ⟨s, hs, rfl⟩ := List.mem_map.1 hc
    rw [u8s_length, h s hs]) (by simpa using hn)
  rw [this]
  rfl
theorem wpList_want {P : Program} {v : Value} {w' : World} (hw : Region.wanted o (yielded ops a.tmps) = true) (hrun : (execOp a.eval o).run P w = .ok (.value v) w') (h : wpList P ops Q rest (a.put o.dst v) w') : wpList P ops Q (o :: rest) a w :=
  wpList_step fun K hK => by
    rw [if_pos hw]
    unfold Oper.wp
    rw [hrun]
    exact hK _ _ h
/-- The same for an operation that is guarded. -/
theorem opG_loadId {x : Operand} {g : Nat} {l : List UInt8} {t : TypeId} {fr : Nat × Nat} (ho : o.op = .load 42 x) (hw : Region.wanted o (yielded ops a.tmps) = true) (hx : a.eval x = .pointer (some ⟨g, 0, none⟩)) (hg : w.heap[g]? = some (.cells (u8s l).toArray t fr)) (hl : l.length = 32)
    (h : wpList Tryz.prog ops Q rest (a.put o.dst (idV l)) w) : wpList Tryz.prog ops Q (o :: rest) a w := by
  refine wpList_want (v := idV l) (w' := w) hw ?_ h
  unfold execOp
  simp only [ho, hx, Sem.run_bind, Sem.run_pure, Result.andThen_ok, run_loadId hg hl]
theorem opG_buildId (ho : o.op = .build 42 #[]) (hw : Region.wanted o (yielded ops a.tmps) = true) (h : wpList Tryz.prog ops Q rest (a.put o.dst (idV (zero8 32))) w) : wpList Tryz.prog ops Q (o :: rest) a w := by
  refine wpList_want (v := idV (zero8 32)) (w' := w) hw ?_ h
  unfold execOp
  simp only [ho, Array.map_empty, List.map_toArray, List.map_nil, Sem.run_bind, Sem.run_pure, Result.andThen_ok, run_buildId]
/-- append(out, ids...) of ids that are given one by one. -/
theorem op_appIds (xs : List (List UInt8)) (n : Nat) {d : Tmp} {x : Operand} {parts : Array (Nat × Operand)} {v : Value} {ys : List (List UInt8)} {B : Nat} {w0 : World} (hgd : o.guard = none) (ho : o.op = .buildSlice 56 n parts) (hd : o.dst = some d)
    (hgd2 : o2.guard = none) (ho2 : o2.op = .call { callee := .builtin .append, args := #[x, .tmp d], argTypes := #[56, 56] }) (hp : parts.map (fun (i, y) => (i, a.eval y)) = (((xs.map idV).zipIdx 0).map Prod.swap).toArray)
    (hx : ∀ u, (a.put o.dst u).eval x = v) (he : ∀ u, (a.put o.dst u).eval (.tmp d) = u) (hn : xs.length = n) (h0 : 0 < n ∧ n ≤ 1000) (hxs : ∀ s ∈ xs, s.length = 32) (hown : OwnIds 42 B w v ys) (hb : Below B w0 w) (hB : B ≤ w.heap.size) (hlen : ys.length + n ≤ 1000000000)
    (h : ∀ u v' w', OwnIds 42 B w' v' (ys ++ xs) → Below B w0 w' → B ≤ w'.heap.size → wpList Tryz.prog ops Q rest ((a.put o.dst u).put o2.dst v') w') : wpList Tryz.prog ops Q (o :: o2 :: rest) a w := by
  have hr := run_buildIds w xs n hn h0.1 h0.2 hxs
  refine wpList_val (v := .slice (some ⟨w.heap.size, 0, none⟩) n n) (w' := w.alloc (.cells (idCells xs).toArray 42)) hgd ?_ ?_
  · unfold execOp
    simp only [ho, hp, Sem.run_bind, Sem.run_pure, Result.andThen_ok, hr]
  · refine app_cells (P := Tryz.prog) (w0 := w0) (B := B) x (.tmp d) 56 42 (idV (zero8 32)) 32 32 v ys.length (idCells ys) (idCells xs) ⟨w.heap.size, 0, none⟩ n n hgd2 ho2 Tryz.underlying56 infoId (by simp [idV_cells, u8s_length, zero8]) (by omega) (hx _) (he _) (by rw [idCells_length xs hxs, hn]) (fun j u hj => cells_new w _ _ j u hj) (idCells_one xs) (World.ownsRow.alloc hown.1 _) (hb.alloc hB _) (by simp; omega) (by omega) (by omega) ?_
    intro v' w' h1 h2 h3
    refine h _ v' w' ⟨?_, fun s hs => ?_⟩ h2 h3
    · rw [List.length_append, idCells_append, hn]
      exact h1
    · rcases List.mem_append.1 hs with hs | hs
      · exact hown.2 s hs
      · exact hxs s hs
theorem op_appIds1 {l1 : List UInt8} {d : Tmp} {x y1 : Operand} {v : Value} {ys : List (List UInt8)} {B : Nat} {w0 : World} (hgd : o.guard = none) (ho : o.op = .buildSlice 56 1 #[(0, y1)]) (hd : o.dst = some d)
    (hgd2 : o2.guard = none) (ho2 : o2.op = .call { callee := .builtin .append, args := #[x, .tmp d], argTypes := #[56, 56] }) (h1 : a.eval y1 = idV l1)
    (hx : ∀ u, (a.put o.dst u).eval x = v) (he : ∀ u, (a.put o.dst u).eval (.tmp d) = u) (hl1 : l1.length = 32) (hown : OwnIds 42 B w v ys) (hb : Below B w0 w) (hB : B ≤ w.heap.size) (hlen : ys.length + 1 ≤ 1000000000)
    (h : ∀ u v' w', OwnIds 42 B w' v' (ys ++ [l1]) → Below B w0 w' → B ≤ w'.heap.size → wpList Tryz.prog ops Q rest ((a.put o.dst u).put o2.dst v') w') : wpList Tryz.prog ops Q (o :: o2 :: rest) a w :=
  op_appIds (w0 := w0) [l1] 1 hgd ho hd hgd2 ho2 (by simp [h1]) hx he rfl (by omega) (fun s hs => by simp at hs; rw [hs, hl1]) hown hb hB hlen h
theorem op_appIds2 {l1 l2 : List UInt8} {d : Tmp} {x y1 y2 : Operand} {v : Value} {ys : List (List UInt8)} {B : Nat} {w0 : World} (hgd : o.guard = none) (ho : o.op = .buildSlice 56 2 #[(0, y1), (1, y2)]) (hd : o.dst = some d)
    (hgd2 : o2.guard = none) (ho2 : o2.op = .call { callee := .builtin .append, args := #[x, .tmp d], argTypes := #[56, 56] }) (h1 : a.eval y1 = idV l1) (h2 : a.eval y2 = idV l2)
    (hx : ∀ u, (a.put o.dst u).eval x = v) (he : ∀ u, (a.put o.dst u).eval (.tmp d) = u) (hl1 : l1.length = 32) (hl2 : l2.length = 32) (hown : OwnIds 42 B w v ys) (hb : Below B w0 w) (hB : B ≤ w.heap.size) (hlen : ys.length + 2 ≤ 1000000000)
    (h : ∀ u v' w', OwnIds 42 B w' v' (ys ++ [l1, l2]) → Below B w0 w' → B ≤ w'.heap.size → wpList Tryz.prog ops Q rest ((a.put o.dst u).put o2.dst v') w') : wpList Tryz.prog ops Q (o :: o2 :: rest) a w :=
  op_appIds (w0 := w0) [l1, l2] 2 hgd ho hd hgd2 ho2 (by simp [h1, h2]) hx he rfl (by omega) (fun s hs => by simp at hs; rcases hs with hs | hs <;> rw [hs] <;> assumption) hown hb hB hlen h
/-- make([]api.Id, 0, c). -/
theorem op_makeIds {x : Operand} {c : Nat} (hgd : o.guard = none) (ho : o.op = .makeSlice 56 (.const (.int .i64 0)) x) (hx : a.eval x = .int .i64 (c : Int)) (hc : c ≤ 1000000000)
    (h : ∀ v w', OwnIds 42 w.heap.size w' v [] → Grow w w' → wpList Tryz.prog ops Q rest (a.put o.dst v) w') : wpList Tryz.prog ops Q (o :: rest) a w := by
  obtain ⟨i, h1, h2, h3, h4⟩ := info_parts infoId
  obtain ⟨w', hr, hown, hg⟩ := run_make_own (P := Tryz.prog) w w.heap.size 56 42 i _ 32 Tryz.underlying56 h1 h2 h3 .i64 .i64 c (by rw [h4]; omega) (by simp only [maxLen]; omega) (Nat.le_refl _)
  refine wpList_val (v := .slice (some ⟨w.heap.size, 0, none⟩) 0 c) (w' := w') hgd ?_ (h _ _ ⟨hown, fun _ h => by cases h⟩ ⟨hg.os, hg.tape, hg.output, hg.size, fun i hi => hg.block i hi (by simp)⟩)
  have e : a.eval (.const (.int .i64 0)) = .int .i64 0 := rfl
  unfold execOp
  simp only [ho, hx, e, Sem.run_bind, Sem.run_pure, Result.andThen_ok, hr]
/-- make([]byte, 0, c). -/
theorem op_makeBytes {x : Operand} {c : Nat} (hgd : o.guard = none) (ho : o.op = .makeSlice 85 (.const (.int .i64 0)) x) (hx : a.eval x = .int .i64 (c : Int)) (hc : c ≤ 100000000000)
    (h : ∀ v w', Buf 5 w.heap.size w' v [] → Grow w w' → wpList Tryz.prog ops Q rest (a.put o.dst v) w') : wpList Tryz.prog ops Q (o :: rest) a w := by
  obtain ⟨i, h1, h2, h3, h4⟩ := info_parts infoU8
  obtain ⟨w', hr, hown, hg⟩ := run_make_own (P := Tryz.prog) w w.heap.size 85 5 i _ 1 Tryz.underlying85 h1 h2 h3 .i64 .i64 c (by rw [h4]; omega) (by simp only [maxLen]; omega) (Nat.le_refl _)
  refine wpList_val (v := .slice (some ⟨w.heap.size, 0, none⟩) 0 c) (w' := w') hgd ?_ (h _ _ hown ⟨hg.os, hg.tape, hg.output, hg.size, fun i hi => hg.block i hi (by simp)⟩)
  have e : a.eval (.const (.int .i64 0)) = .int .i64 0 := rfl
  unfold execOp
  simp only [ho, hx, e, Sem.run_bind, Sem.run_pure, Result.andThen_ok, hr]
/-- A variable of one cell is made. -/
theorem op_box1 {T : TypeId} {x : Operand} {v : Value} (hgd : o.guard = none) (ho : o.op = .box T x) (hx : a.eval x = v) (hv : v.cells = #[v])
    (h : ∀ g W, w.heap.size ≤ g → g < W.heap.size → Grow w W → W.heap[g]? = some (.cells #[v] T (0, 0)) → wpList Tryz.prog ops Q rest (a.put o.dst (.pointer (some ⟨g, 0, none⟩))) W) : wpList Tryz.prog ops Q (o :: rest) a w := by
  refine wpList_val (v := .pointer (some ⟨w.heap.size, 0, none⟩)) (w' := w.alloc (.cells #[v] T)) hgd ?_ (h _ _ (Nat.le_refl _) (by simp) (grow_alloc _ _) (heap_alloc_new _ _))
  have hr : (Instr.box T v).run Tryz.prog w = .ok (.pointer (some ⟨w.heap.size, 0, none⟩)) (w.alloc (.cells v.cells T)) := rfl
  rw [hv] at hr
  unfold execOp
  simp only [ho, hx, Sem.run_bind, Sem.run_pure, Result.andThen_ok, hr]
theorem cell_box {w w' : World} {g : Nat} {v : Value} {t : TypeId} (h : w.heap[g]? = some (.cells #[v] t (0, 0))) (hg : Grow w w') : w'.cell? ⟨g, 0, none⟩ = some v := by
  rw [cell_of_row w' g 0 _ t (0, 0) (grow_block h hg)]
  rfl
/-- A function value is called. -/
theorem op_callFn {x y1 y2 : Operand} {ts : Array TypeId} {f : FuncId} {cap : Array Value} {v u1 u2 : Value} (hgd : o.guard = none) (ho : o.op = .call { callee := .value x, args := #[y1, y2], argTypes := ts }) (hx : a.eval x = .func (.func f) #[] cap)
    (h1 : a.eval y1 = u1) (h2 : a.eval y2 = u2) (hent : ∀ args w, (callFunc f args).run Tryz.prog w = .ok (.enter f args) w) (hc : Calls Tryz.prog f (#[u1, u2] ++ cap) w fun e w' => e = .returned v ∧ Below w.heap.size w w')
    (h : ∀ w', Grow w w' → wpList Tryz.prog ops Q rest (a.put o.dst v) w') : wpList Tryz.prog ops Q (o :: rest) a w :=
  wpList_plain hgd fun K hK => by
    have hr : (execOp a.eval o).run Tryz.prog w = .ok (.enter f (#[u1, u2] ++ cap)) w := by
      unfold execOp
      simp only [ho, resolve, hx, h1, h2, List.map_toArray, List.map_cons, List.map_nil, Deferred.ofValue, invoke, Sem.run_bind, Sem.run_pure, Result.andThen_ok, Array.empty_append, hent]
    unfold Oper.wp
    rw [hr]
    exact Calls.mono hc fun e w'' ⟨he, hb⟩ => by rw [he]; exact hK _ _ (h _ hb)
/-- &l[i] of a row of ids. -/
theorem run_indexAddrId {ad : Addr} {n c i : Nat} (hi : i < n) (w : World) : (Instr.indexAt 56 (.slice (some ad) n c) (.int .i64 (i : Int))).run Tryz.prog w = .ok (.pointer (some (ad.add (i * 32)))) w := by
  have h1 : (0 : Int) ≤ (i : Int) := by omega
  have h2 : (i : Int) < (n : Int) := by omega
  go_simp
end
end Go.Proofs.YtabkaflccaklhaaGreat
end
section
/- quitclaimref04.Same: contract. -/
namespace Go.Proofs.YtabkaflccaklhaaGreat
open Go.RowKit
open Go.Qk hiding rotr b4
set_option maxHeartbeats 1000000
set_option maxRecDepth 100000
theorem getD_mem_len {l : List (List UInt8)} (hl : ∀ s ∈ l, s.length = 32) {k : Nat} (h : k < l.length) : (l.getD k []).length = 32 := hl _ (by simp [h])
end Go.Proofs.YtabkaflccaklhaaGreat
end
section
/- Two rows of ids of the call's own, side by side. -/
namespace Go.Proofs.YtabkaflccaklhaaGreat
open Go.RowKit
open Go.Qk hiding rotr b4
set_option maxHeartbeats 1000000
set_option maxRecDepth 100000
/-- Two slices that lie in no one block. -/
def Twain (v u : Value) : Prop := ∀ k, v.ownBlock = some k → u.ownBlock ≠ some k
theorem Twain.symm {v u : Value} (h : Twain v u) : Twain u v := fun k hk hv => h k hv hk
theorem twain_nil (u : Value) : Twain (.slice none 0 0) u := fun k hk => by simp [Value.ownBlock] at hk
theorem kept_twain {B : Nat} {w w' : World} {v u : Value} {zs : List (List UInt8)} (h : OwnIds 42 B w u zs) (hg : w.grownBy w' v.ownBlock) (hd : Twain v u) : OwnIds 42 B w' u zs := by
  refine ⟨h.1.kept hg ?_, h.2⟩
  cases hu : u.ownBlock with
  | none => exact .inl rfl
  | some k =>
    right
    intro hv
    exact hd k hv.symm hu
section
variable {ops : Array Oper} {Q : Exit → Act → World → Prop} {rest : List Oper} {o o2 : Oper} {a : Act} {w : World}
theorem op_appIds1T {l1 : List UInt8} {d : Tmp} {x y1 : Operand} {v u : Value} {ys zs : List (List UInt8)} {B : Nat} {w0 : World} (hgd : o.guard = none) (ho : o.op = .buildSlice 56 1 #[(0, y1)]) (hd : o.dst = some d)
    (hgd2 : o2.guard = none) (ho2 : o2.op = .call { callee := .builtin .append, args := #[x, .tmp d], argTypes := #[56, 56] }) (h1 : a.eval y1 = idV l1)
    (hx : ∀ u, (a.put o.dst u).eval x = v) (he : ∀ u, (a.put o.dst u).eval (.tmp d) = u) (hl1 : l1.length = 32) (hown : OwnIds 42 B w v ys) (hown2 : OwnIds 42 B w u zs) (htw : Twain v u) (hb : Below B w0 w) (hB : B ≤ w.heap.size) (hlen : ys.length + 1 ≤ 1000000000)
    (h : ∀ x v' w', OwnIds 42 B w' v' (ys ++ [l1]) → OwnIds 42 B w' u zs → Twain v' u → Below B w0 w' → wpList Tryz.prog ops Q rest ((a.put o.dst x).put o2.dst v') w') : wpList Tryz.prog ops Q (o :: o2 :: rest) a w := by
  have h32 : ∀ s ∈ [l1], s.length = 32 := fun s hs => by simp at hs; rw [hs, hl1]
  have hr := run_buildIds w [l1] 1 rfl (by omega) (by omega) h32
  have hp : #[(0, y1)].map (fun (i, y) => (i, a.eval y)) = ((([l1].map idV).zipIdx 0).map Prod.swap).toArray := by simp [h1]
  refine wpList_val (v := .slice (some ⟨w.heap.size, 0, none⟩) 1 1) (w' := w.alloc (.cells (idCells [l1]).toArray 42)) hgd ?_ ?_
  · unfold execOp
    simp only [ho, hp, Sem.run_bind, Sem.run_pure, Result.andThen_ok, hr]
  · obtain ⟨i, i1, i2, i3, i4⟩ := info_parts infoId
    refine wpList_append_own_at (P := Tryz.prog) _ hgd2 x (.tmp d) 56 ho2 B 42 i _ 32 32 Tryz.underlying56 i1 i2 i3 i4 (by simp [idV_cells, u8s_length, zero8]) (by omega) v ys.length (idCells ys) (hx _) (World.ownsRow.alloc hown.1 _) ⟨w.heap.size, 0, none⟩ 1 1 (idCells [l1]) (he _) (by rw [idCells_length _ h32]; rfl) (fun j u hj => cells_new w _ _ j u hj) (idCells_one _) (by simp only [maxLen]; omega) (by omega) (by simp; omega) ?_
    intro v' w' q1 q2 _ q4
    have hu := OwnIds.grow hown2 (grow_alloc w (.cells (idCells [l1]).toArray 42))
    have hbb := hb.alloc hB (.cells (idCells [l1]).toArray 42)
    refine h _ v' w' ⟨?_, fun s hs => ?_⟩ (kept_twain hu q2 htw) ?_ (hbb.grown q2 (by simp; omega) (fun k hk => (hown.1.lt k hk).1))
    · rw [List.length_append, idCells_append]
      exact q1
    · rcases List.mem_append.1 hs with hs | hs
      · exact hown.2 s hs
      · exact h32 s hs
    · rcases q4 with q | q
      · intro k hk
        rw [q] at hk
        exact htw k hk
      · intro k hk hu2
        rw [q] at hk
        injection hk with hk
        have := (hown2.1.lt k hu2).2
        simp at hk
        omega
end
end Go.Proofs.YtabkaflccaklhaaGreat
end
section
/- tag.Chain, its reference: contracts. -/
namespace Go.Proofs.YtabkaflccaklhaaGreat
open Go.RowKit
open Go.Qk hiding rotr b4
set_option maxHeartbeats 1000000
set_option maxRecDepth 100000
theorem flatten_take_succ (l : List (List UInt8)) (k : Nat) (h : k < l.length) : (l.take (k + 1)).flatten = (l.take k).flatten ++ l.getD k [] := by
  rw [List.take_succ_eq_append_getElem h, List.flatten_append]
  simp [h]
theorem flatten_take_len (l : List (List UInt8)) (hl : ∀ s ∈ l, s.length = 32) (k : Nat) (h : k ≤ l.length) : (l.take k).flatten.length = 32 * k := by
  induction k with
  | zero => rfl
  | succ k ih =>
    rw [flatten_take_succ l k (by omega), List.length_append, ih (by omega)]
    have : l.getD k [] ∈ l := by simp [show k < l.length by omega]
    rw [hl _ this]
    omega
theorem refAll (A : Option Addr) (n c : Nat) (l : List (List UInt8)) (w : World) (hx : IdRow w A l) (hn : l.length = n) (hl : ∀ s ∈ l, s.length = 32) (hmax : l.length ≤ 1000000) :
    Calls Tryz.prog 116 #[.slice A n c] w fun e w' => e = .returned (.string (bs l.flatten)) ∧ Below w.heap.size w w' := by
  subst hn
  have HX := hid hx
  have HL := hid hl
  clear hx hl
  go_enter Tryz.func116, Tryz.ntmps116
  have HB := hid (grow_refl w)
  go_wp2_with fail
  go_loopg [3, 4] (l.length + 1) (fun q v i wr => ∃ k : Nat, k ≤ l.length ∧ q = l.length + 1 - k ∧ i = .int .i64 k ∧ v = .string (bs (l.take k).flatten) ∧ Hid (Grow w wr))
  case atStart => exact ⟨0, by omega, rfl, rfl, rfl, HB⟩
  case round =>
    clear HB
    obtain ⟨k, hk, hq, rfl, rfl, HB⟩ := hrel
    by_cases hlt : k < l.length
    · have k0 : (0 : Int) ≤ (k : Int) := by omega
      have k1 : (k : Int) < (l.length : Int) := by omega
      obtain ⟨ad, rfl, hc⟩ := (HX.out.grow HB.out).at_ k hlt
      have HC := hid hc
      have H32 := hid (getD_mem_len HL.out hlt)
      have hs1 : (bs (l.take k).flatten).size = 32 * k := by rw [bs_size, flatten_take_len l HL.out k hk]
      have hs2 : (bs (l.getD k [])).size = 32 := by rw [bs_size, H32.out]
      have HN := hid (show bs (l.take k).flatten ++ bs (l.getD k []) = bs (l.take (k + 1)).flatten by rw [flatten_take_succ l k hlt, bs_append])
      clear hc
      generalize l.getD k [] = s at *
      generalize bs (l.take k).flatten = c1 at *
      go_wp2_with (refine op_loadAt (l := s) rfl rfl rfl HC.out H32.out ?_)
      refine (ref3Bytes s H32.out _).mono ?_
      rintro e w1 ⟨rfl, hb⟩
      have HB1 := hid (Grow.trans HB.out hb)
      clear hb HC
      generalize bs s = c2 at *
      go_wp2
      go_roundg (l.length + 1 - (k + 1))
      case rel => exact ⟨k + 1, by omega, rfl, by go_num, by rw [HN.out], HB1⟩
      case measure => omega
    · obtain rfl : k = l.length := by omega
      go_wp2_with fail
      go_ret
      exact ⟨by rw [List.take_length]; rfl, HB.out⟩
/-- The sum of a row. -/
def chainOf (name : ByteArray) (l : List (List UInt8)) : List UInt8 := tagSum (cutName name) [bs l.flatten]
theorem chainOf_length (name : ByteArray) (l : List (List UInt8)) : (chainOf name l).length = 32 := tagSum_length _ _
theorem textOf_one (name : ByteArray) (a : List UInt8) (hn : name.size ≤ 255) (ha : a.length ≤ 100000000) : (textOf name [bs a]).length ≤ 140737488355328 := by
  simp [textOf, partsOf, be_length, bl_length, bs_size]
  omega
theorem tagChain (name : ByteArray) (hsz : name.size ≤ 9223372036854775807) (A : Option Addr) (n c : Nat) (l : List (List UInt8)) (w : World) (hx : IdRow w A l) (hn : l.length = n) (hl : ∀ s ∈ l, s.length = 32) (hmax : l.length ≤ 1000000) :
    Calls Tryz.prog 143 #[.string name, .slice A n c] w fun e w' => e = .returned (idV (chainOf name l)) ∧ Below w.heap.size w w' := by
  subst hn
  have HX := hid hx
  have HL := hid hl
  have HTL := hid (chainOf_length name l)
  clear hx hl
  go_enter Tryz.func143, Tryz.ntmps143
  apply wp_seq_k; intro _ _; apply wp_region_lit
  refine op_alloc rfl rfl ?_
  intro gr W hgl hgu hb hr
  have HR := hid hr; have HB := hid hb; have HRL := hid hgl; have HRU := hid hgu
  clear hr hb hgl hgu
  try simp only [Act.put, List.setIfInBounds_toArray, List.set_cons_zero, List.set_cons_succ]
  refine wpList_nil ?_
  go_wp2_with (refine op_makeBytes (c := 32 * l.length) rfl rfl (by simp [Act.eval]) (by omega) ?_)
  intro v0 W0 hown hg0
  have HO := hid hown
  have HG := hid hg0
  clear hown hg0
  go_wp2_with fail
  go_loopg [5, 14] (l.length + 1) (fun q v i wr => ∃ k : Nat, k ≤ l.length ∧ q = l.length + 1 - k ∧ i = .int .i64 k ∧ Hid (Buf 5 W.heap.size wr v (l.take k).flatten) ∧ Hid (Grow W wr))
  case atStart => exact ⟨0, by omega, rfl, rfl, HO, HG⟩
  case round =>
    clear HO HG
    obtain ⟨k, hk, hq, rfl, HO, HG⟩ := hrel
    by_cases hlt : k < l.length
    · have k0 : (0 : Int) ≤ (k : Int) := by omega
      have k1 : (k : Int) < (l.length : Int) := by omega
      obtain ⟨ad, rfl, hc⟩ := (HX.out.grow (Grow.trans HB.out HG.out)).at_ k hlt
      have HC := hid hc
      have H32 := hid (getD_mem_len HL.out hlt)
      have hs1 : (l.take k).flatten.length = 32 * k := flatten_take_len l HL.out k hk
      have HN := hid (flatten_take_succ l k hlt)
      clear hc
      generalize l.getD k [] = s at *
      go_wp2_with (first | (refine op_loadAt (l := s) rfl rfl rfl HC.out H32.out ?_) | (refine op_allocstore (l := s) rfl rfl rfl rfl rfl rfl (fun _ => rfl) ⟨fun _ => rfl, H32.out⟩ ?_))
      intro g7 w1 hgl hgu hb hr
      have HO1 := hid (HO.out.grow hb)
      have HG1 := hid (Grow.trans HG.out hb)
      have HR1 := hid hr
      clear hgl hgu hb hr HC
      go_wp2_with (at_builtin; refine app_bytes (w0 := W) (B := W.heap.size) (.tmp 18) (.tmp 19) 85 5 _ (l.take k).flatten s ⟨g7, 0, none⟩ 32 32 rfl rfl Tryz.underlying85 infoU8 rfl rfl H32.out ?hm HO1.out HG1.out HG1.out.size ?hl ?_)
      case hm => intro i hi; rw [addr_add]; exact cell_u8 HR1.out (grow_refl _) i hi
      case hl => have := H32.out; omega
      intro v2 w2 hown hb2 hs2
      rw [← HN.out] at hown
      have HO2 := hid hown
      have HG2 := hid hb2
      clear hown hb2 hs2
      go_wp2
      go_roundg (l.length + 1 - (k + 1))
      case rel => exact ⟨k + 1, by omega, rfl, by go_num, HO2, HG2⟩
      case measure => omega
    · obtain rfl : k = l.length := by omega
      rw [List.take_length] at HO
      have hcv := buf_str (P := Tryz.prog) 85 5 9 Tryz.underlying85 Tryz.underlying5 Tryz.underlying9 _ _ HO.out
      have HTX := hid (textOf_one (cutName name) l.flatten (cutName_size name) (by have := flatten_take_len l HL.out l.length (Nat.le_refl _); rw [List.take_length] at this; omega))
      have hfl : l.flatten.length ≤ 100000000 := by have := flatten_take_len l HL.out l.length (Nat.le_refl _); rw [List.take_length] at this; omega
      replace HR := hid (grow_block HR.out HG.out)
      replace HB := hid (Grow.trans HB.out HG.out)
      go_wp2_with fail
      refine (tagSumF name _ _ _ [bs l.flatten] _ (strRow_alloc wr [bs l.flatten] _ (by simp)) rfl hsz HTX.out).mono ?_
      rintro e w4 ⟨rfl, hb⟩
      replace hb := Grow.trans (grow_alloc _ _) hb
      replace HR := hid (grow_block HR.out hb)
      replace HB := hid (Grow.trans HB.out hb)
      clear hb
      clear hcv
      go_wp2_with (first |  (refine op_buildId rfl rfl ?_) | (refine op_storeId (l := chainOf name l) rfl rfl rfl rfl rfl HR.out (by rfl) (HTL.out) ?_))
      intro wz hz _ hbz
      have HZ := hid hz; have HBZ := hid (hbz _ _ HB.out HRL.out)
      clear hz hbz
      go_wp2_with fail
      refine bodyPost_ret (ret_id rfl rfl HZ.out (HTL.out)) rfl ⟨?_, HBZ.out⟩
      rfl
end Go.Proofs.YtabkaflccaklhaaGreat
end
section
/- A drawn region: a call that hands back a row of ids. -/
namespace Go.Proofs.YtabkaflccaklhaaGreat
open Go.RowKit
open Go.Qk hiding rotr b4
set_option maxHeartbeats 1000000
/-- A row that is read, of such a length. -/
def idsAt (xs : List (List UInt8)) (v : Value) (w : World) : Prop := ∃ A c, v = .slice A xs.length c ∧ IdRow w A xs
section
variable {ops : Array Oper} {W : World} {Qe : (Tmp → World → Prop) → Act → Prop}
theorem head_ids {o : Oper} {r : List (Oper × (Value → World → Prop))} {E : Tmp → World → Prop} {a : Act} {xs : List (List UInt8)} {f : FuncId} {args : Array Value} (hwant : Region.wanted o (yielded ops a.tmps) = true) (hE : ∀ t, o.dst = some t → ∀ w, E t w)
    (hrun : ∀ w, (execOp a.eval o).run Tryz.prog w = .ok (.enter f args) w) (hc : ∀ w, Grow W w → (∀ t ∈ o.looksAt ops, E t w) → Calls Tryz.prog f args w fun e w' => ∃ v, e = .returned v ∧ idsAt xs v w' ∧ Below w.heap.size w w')
    (h : ∀ A c, Head Tryz.prog ops W Qe r (upE E o.dst (idsAt xs (.slice A xs.length c))) (a.put o.dst (.slice A xs.length c))) : Head Tryz.prog ops W Qe ((o, idsAt xs) :: r) E a := by
  refine head_abs (V := idsAt xs) hwant ?_ ?_ ?_
  · rintro v w1 w2 ⟨A, c, rfl, hr⟩ hg
    exact ⟨A, c, rfl, hr.grow hg⟩
  · intro w1 hw1 hl
    refine does_call (hrun w1) ((hc w1 hw1 hl).mono ?_)
    rintro e w2 ⟨v, rfl, hv, hb⟩
    exact ⟨v, rfl, hb, hv⟩
  · rintro v ⟨_, A, c, rfl, _⟩
    exact h A c
theorem ids_at {E : Tmp → World → Prop} {t : Tmp} {xs : List (List UInt8)} {A : Option Addr} {c : Nat} {w : World} (h : upE E (some t) (idsAt xs (.slice A xs.length c)) t w) : IdRow w A xs := by
  unfold upE at h
  rw [if_pos rfl] at h
  obtain ⟨A', c', hg, hr⟩ := h
  injection hg with h1
  rw [h1]
  exact hr
theorem ret_idsAt {f : FuncId} {args : Array Value} {w : World} {B : Nat} {xs : List (List UInt8)} (h : Calls Tryz.prog f args w fun e w' => ∃ v, e = .returned v ∧ OwnIds 42 B w' v xs ∧ Below w.heap.size w w') :
    Calls Tryz.prog f args w fun e w' => ∃ v, e = .returned v ∧ idsAt xs v w' ∧ Below w.heap.size w w' :=
  h.mono fun _ _ ⟨v, he, ho, hb⟩ => ⟨v, he, (by obtain ⟨⟨A, c, e1, h1⟩, _⟩ := ho.sl; exact ⟨A, c, e1, h1⟩), hb⟩
end
end Go.Proofs.YtabkaflccaklhaaGreat
end
