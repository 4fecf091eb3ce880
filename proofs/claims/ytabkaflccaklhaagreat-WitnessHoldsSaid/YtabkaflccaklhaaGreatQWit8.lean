/- witness.Find: contract. -/
import Derived.Test.YtabkaflccaklhaaGreatQWit6
import Derived.Test.YtabkaflccaklhaaGreatQWit7
set_option linter.unusedSimpArgs false
set_option linter.unusedVariables false
namespace Go.Proofs.YtabkaflccaklhaaGreat
open Go.RowKit
open Go.Qk hiding rotr b4
set_option maxHeartbeats 2000000
set_option maxRecDepth 100000
/-- A witness, as cells. -/
def witC (k : Int) (a b : List UInt8) (leaf bit side : Int) (v : IdK) : List Value := [.int .i64 k, .string (bs a), .string (bs b), .int .i64 leaf, .int .i64 bit, .int .i64 side] ++ u8s v
def witZ : List Value := witC 0 [] [] 0 0 0 (zero8 32)
theorem witC_length {k : Int} {a b : List UInt8} {leaf bit side : Int} {v : IdK} (h : v.length = 32) : (witC k a b leaf bit side v).length = 38 := by simp [witC, u8s_length, h]
theorem witC_one (k : Int) (a b : List UInt8) (leaf bit side : Int) (v : IdK) : ∀ u ∈ witC k a b leaf bit side v, u.oneCell' = true := by
  intro u hu
  rcases List.mem_append.1 hu with h | h
  · simp only [List.mem_cons, List.not_mem_nil, or_false] at h
    rcases h with rfl | rfl | rfl | rfl | rfl | rfl <;> rfl
  · exact u8s_one _ _ h
theorem infoWit : (Tryz.prog.info? 61).map (·.size) = some 38 := by kernel_rfl
theorem run_buildWit0 (w : World) : (Instr.build 61 #[]).run Tryz.prog w = .ok (.agg witZ.toArray) w := run_build w _ _ _ (by kernel_rfl)
theorem run_buildWit1 (w : World) : (Instr.build 61 #[(0, .int .i64 1)]).run Tryz.prog w = .ok (.agg (witC 1 [] [] 0 0 0 (zero8 32)).toArray) w := run_build w _ _ _ (by kernel_rfl)
theorem run_buildWit2 (a b : List UInt8) (w : World) : (Instr.build 61 #[(0, .int .i64 2), (1, .string (bs a)), (2, .string (bs b))]).run Tryz.prog w = .ok (.agg (witC 2 a b 0 0 0 (zero8 32)).toArray) w := run_build w _ _ _ (by kernel_rfl)
theorem run_buildWit3 (leaf bit side : Int) (v : IdK) (hv : v.length = 32) (w : World) : (Instr.build 61 #[(0, .int .i64 3), (3, .int .i64 leaf), (4, .int .i64 bit), (5, .int .i64 side), (6, idV v)]).run Tryz.prog w = .ok (.agg (witC 3 [] [] leaf bit side v).toArray) w := by
  obtain ⟨a0, a1, a2, a3, a4, a5, a6, a7, b0, b1, b2, b3, b4, b5, b6, b7, c0, c1, c2, c3, c4, c5, c6, c7, d0, d1, d2, d3, d4, d5, d6, d7, rfl⟩ := list32 hv
  exact run_build w _ _ _ (by kernel_rfl)
theorem ret_wit {fn : Func} {p u : Tmp} {tmps : Array Value} {w : World} {g : Nat} {cs : Array Value} {t : TypeId} {fr : Nat × Nat} (h : fn.results = #[.cell p 61, .tmp u]) (hp : tmps.getD p undef = .pointer (some ⟨g, 0, none⟩)) (hg : w.heap[g]? = some (.cells cs t fr)) (hl : cs.size = 38) :
    (results fn tmps).run Tryz.prog w = .ok (.tuple #[.agg cs, tmps.getD u undef]) w :=
  results_row_tmp h _ _ g _ _ fr _ hp hg Tryz.underlying61 rfl (by rw [infoWit, hl])
def findC (seed : ByteArray) (b h leaf : Nat) (s0 : IdK) (way pubs : List IdK) (fs : List WRow) (sum : IdK) (shown : List IdK) : List Value :=
  match (textsW seed b h leaf s0 way pubs).find? unlikeP with
  | some t => witC 2 t.1 t.2 0 0 0 (zero8 32)
  | none => if honestW b fs sum leaf then witC 1 [] [] 0 0 0 (zero8 32) else
    match firstW b fs sum leaf with
    | some k => witC 3 [] [] leaf k (bitI sum k) (shown.getD k [])
    | none => witZ
theorem run_opBuildW {o : Oper} {a : Act} {w : World} {t : TypeId} {parts : Array (Nat × Operand)} {ps : Array (Nat × Value)} {v : Value} (ho : o.op = .build t parts) (hp : parts.map (fun (i, x) => (i, a.eval x)) = ps) (hr : ∀ w, (Instr.build t ps).run Tryz.prog w = .ok v w) :
    (execOp a.eval o).run Tryz.prog w = .ok (.value v) w := by
  unfold execOp
  simp only [ho, hp, Sem.run_bind, Sem.run_pure, Result.andThen_ok, hr]
theorem wFind_bad (seed : ByteArray) (b h : Int) (hk : ktB b h = false) (v1 : Value) (sum : IdK) (hs : sum.length = 32) (leaf : Int) (A B C : Option Addr) (n m k c d e : Nat) (w : World) :
    Calls Tryz.prog 27 #[.agg #[.int .i64 b, .int .i64 h], .string seed, v1, idV sum, .agg #[.int .i64 leaf, .slice A n c, .slice B m d, .slice C k e]] w fun r w' => r = .returned (.tuple #[.agg witZ.toArray, .int .i64 1]) ∧ Below w.heap.size w w' := by
  have HOF := hid (fun w => ktOfC_bad seed b h hk w)
  clear hk
  go_enter Tryz.func27, Tryz.ntmps27
  have HB := hid (grow_refl w)
  apply wp_seq_k; intro _ _; apply wp_region_lit
  refine op_boxC (cs := #[.int .i64 b, .int .i64 h]) rfl rfl rfl rfl ?_
  intro gp w1 hgl hgu hb hr
  have PL := hid (Nat.le_trans HB.out.size hgl)
  replace HB := hid (Grow.trans HB.out hb)
  have P := hid hr; have PU := hid hgu
  clear hr hgl hgu hb
  try simp only [Act.put, List.setIfInBounds_toArray, List.set_cons_zero, List.set_cons_succ]
  refine op_box (l := sum) rfl rfl rfl ?_
  intro gs w2 hgl hgu hb hr
  have XL := hid (Nat.le_trans HB.out.size hgl)
  replace HB := hid (Grow.trans HB.out hb)
  replace P := hid (grow_block P.out hb)
  have X := hid hr; have XU := hid hgu
  clear hr hgl hgu hb
  try simp only [Act.put, List.setIfInBounds_toArray, List.set_cons_zero, List.set_cons_succ]
  refine op_boxC (cs := #[.int .i64 leaf, .slice A n c, .slice B m d, .slice C k e]) rfl rfl rfl rfl ?_
  intro gx w3 hgl hgu hb hr
  have GL := hid (Nat.le_trans HB.out.size hgl)
  replace HB := hid (Grow.trans HB.out hb)
  replace P := hid (grow_block P.out hb)
  replace X := hid (grow_block X.out hb)
  have G := hid hr; have GU := hid hgu
  clear hr hgl hgu hb
  try simp only [Act.put, List.setIfInBounds_toArray, List.set_cons_zero, List.set_cons_succ]
  refine op_allocC (z := undef) (cs := witZ.toArray) rfl rfl (fun w => by kernel_rfl) ?_
  intro gr wr hgl hgu hb hr
  have HRL := hid (Nat.le_trans HB.out.size hgl)
  replace HB := hid (Grow.trans HB.out hb)
  replace P := hid (grow_block P.out hb)
  replace X := hid (grow_block X.out hb)
  replace G := hid (grow_block G.out hb)
  clear hb
  have HR := hid hr
  clear hr hgl hgu
  try simp only [Act.put, List.setIfInBounds_toArray, List.set_cons_zero, List.set_cons_succ]
  go_wp2_with (first | (refine opG_loadB rfl rfl rfl P.out Tryz.underlying54 rfl rfl ?_) | (refine opG_load1 rfl rfl rfl P.out rfl Tryz.underlying3 rfl ?_) |  fail)
  refine (HOF.out _).mono ?_
  rintro e w4 ⟨rfl, hb⟩
  replace HB := hid (Grow.trans HB.out hb)
  replace P := hid (grow_block P.out hb)
  replace X := hid (grow_block X.out hb)
  replace G := hid (grow_block G.out hb)
  replace HR := hid (grow_block HR.out hb)
  clear hb
  go_wp2_with (first | (refine opG_loadB rfl rfl rfl P.out Tryz.underlying54 rfl rfl ?_) | (refine opG_load1 rfl rfl rfl P.out rfl Tryz.underlying3 rfl ?_) |  (refine op_allocstore (l := zero8 32) rfl rfl rfl rfl rfl rfl (fun _ => rfl) ⟨fun _ => rfl, rfl⟩ ?_))
  intro g12 w5 hgl hgu hb hr
  have H12L := hid (Nat.le_trans HB.out.size hgl)
  replace HB := hid (Grow.trans HB.out hb)
  replace P := hid (grow_block P.out hb)
  replace X := hid (grow_block X.out hb)
  replace G := hid (grow_block G.out hb)
  replace HR := hid (grow_block HR.out hb)
  have H12 := hid hr; have H12U := hid hgu
  clear hr hgl hgu hb
  try simp only [Act.put, List.setIfInBounds_toArray, List.set_cons_zero, List.set_cons_succ]
  have HBD := hid run_buildWit0
  go_wp2_with (first | (refine opG_build (ps := #[]) rfl rfl (by simp) HBD.out ?_) | (refine store_block 61 _ _ gr 0 witZ witZ witZ 61 rfl rfl rfl rfl rfl HR.out (by rw [infoWit]; rfl) (by exact Nat.le_refl _) (witC_one _ _ _ _ _ _ _) (by rfl) ?_) | fail)
  intro wz hz _ hbz
  have HZ := hid hz
  have HBZ := hid (hbz _ _ HB.out HRL.out)
  clear hz hbz
  go_wp2_with fail
  refine bodyPost_ret (ret_wit rfl rfl HZ.out rfl) rfl ⟨rfl, HBZ.out⟩
theorem wFind_err (seed : ByteArray) (hsd : seed.size ≤ 1000000) (b h : Nat) (hk : ktB b h = true) (v1 : Value) (sum : IdK) (hs : sum.length = 32) (leaf : Int) (A B C : Option Addr) (n m k c d e : Nat) (w : World) (err : Int) (herr : err ≠ 0)
    (hv : ∀ w1, Grow w w1 → Calls Tryz.prog 62 #[.agg #[.int .i64 (b : Int), .int .i64 (h : Int)], idV (ktOf seed b h), idV sum, .agg #[.int .i64 leaf, .slice A n c, .slice B m d, .slice C k e]] w1 fun r w' => r = .returned (.int .i64 err) ∧ Below w1.heap.size w1 w') :
    Calls Tryz.prog 27 #[.agg #[.int .i64 (b : Int), .int .i64 (h : Int)], .string seed, v1, idV sum, .agg #[.int .i64 leaf, .slice A n c, .slice B m d, .slice C k e]] w fun r w' => r = .returned (.tuple #[.agg witZ.toArray, .int .i64 err]) ∧ Below w.heap.size w w' := by
  have HOF := hid (fun w => ktOfC seed hsd b h hk w)
  have HV := hid hv
  have LK := hid (ktOf_length seed b h)
  have HS := hid hs
  have te : (err != 0) = true := by simpa using herr
  clear hk hv hs herr
  generalize ktOf seed b h = key at *
  go_enter Tryz.func27, Tryz.ntmps27
  have HB := hid (grow_refl w)
  apply wp_seq_k; intro _ _; apply wp_region_lit
  refine op_boxC (cs := #[.int .i64 (b : Int), .int .i64 (h : Int)]) rfl rfl rfl rfl ?_
  intro gp w1 hgl hgu hb hr
  have PL := hid (Nat.le_trans HB.out.size hgl)
  replace HB := hid (Grow.trans HB.out hb)
  have P := hid hr; have PU := hid hgu
  clear hr hgl hgu hb
  try simp only [Act.put, List.setIfInBounds_toArray, List.set_cons_zero, List.set_cons_succ]
  refine op_box (l := sum) rfl rfl rfl ?_
  intro gs w2 hgl hgu hb hr
  have XL := hid (Nat.le_trans HB.out.size hgl)
  replace HB := hid (Grow.trans HB.out hb)
  replace P := hid (grow_block P.out hb)
  have X := hid hr; have XU := hid hgu
  clear hr hgl hgu hb
  try simp only [Act.put, List.setIfInBounds_toArray, List.set_cons_zero, List.set_cons_succ]
  refine op_boxC (cs := #[.int .i64 leaf, .slice A n c, .slice B m d, .slice C k e]) rfl rfl rfl rfl ?_
  intro gx w3 hgl hgu hb hr
  have GL := hid (Nat.le_trans HB.out.size hgl)
  replace HB := hid (Grow.trans HB.out hb)
  replace P := hid (grow_block P.out hb)
  replace X := hid (grow_block X.out hb)
  have G := hid hr; have GU := hid hgu
  clear hr hgl hgu hb
  try simp only [Act.put, List.setIfInBounds_toArray, List.set_cons_zero, List.set_cons_succ]
  refine op_allocC (z := undef) (cs := witZ.toArray) rfl rfl (fun w => by kernel_rfl) ?_
  intro gr wr hgl hgu hb hr
  have HRL := hid (Nat.le_trans HB.out.size hgl)
  replace HB := hid (Grow.trans HB.out hb)
  replace P := hid (grow_block P.out hb)
  replace X := hid (grow_block X.out hb)
  replace G := hid (grow_block G.out hb)
  clear hb
  have HR := hid hr
  clear hr hgl hgu
  try simp only [Act.put, List.setIfInBounds_toArray, List.set_cons_zero, List.set_cons_succ]
  go_wp2_with (first | (refine opG_loadB rfl rfl rfl P.out Tryz.underlying54 rfl rfl ?_) | (refine opG_load1 rfl rfl rfl P.out rfl Tryz.underlying3 rfl ?_) | (refine opG_loadB rfl rfl rfl G.out Tryz.underlying58 rfl rfl ?_) | (refine opG_load1 rfl rfl rfl G.out rfl Tryz.underlying3 rfl ?_) | (refine opG_load1 rfl rfl rfl G.out rfl Tryz.underlying56 rfl ?_) | (refine op_loadId rfl rfl rfl X.out (HS.out) ?_) |  fail)
  refine (HOF.out _).mono ?_
  rintro e w4 ⟨rfl, hb⟩
  replace HB := hid (Grow.trans HB.out hb)
  replace P := hid (grow_block P.out hb)
  replace X := hid (grow_block X.out hb)
  replace G := hid (grow_block G.out hb)
  replace HR := hid (grow_block HR.out hb)
  clear hb
  go_wp2_with (first | (refine opG_loadB rfl rfl rfl P.out Tryz.underlying54 rfl rfl ?_) | (refine opG_load1 rfl rfl rfl P.out rfl Tryz.underlying3 rfl ?_) | (refine opG_loadB rfl rfl rfl G.out Tryz.underlying58 rfl rfl ?_) | (refine opG_load1 rfl rfl rfl G.out rfl Tryz.underlying3 rfl ?_) | (refine opG_load1 rfl rfl rfl G.out rfl Tryz.underlying56 rfl ?_) | (refine op_loadId rfl rfl rfl X.out (HS.out) ?_) |  (refine op_allocstore (l := key) rfl rfl rfl rfl rfl rfl (fun _ => rfl) ⟨fun _ => rfl, LK.out⟩ ?_))
  intro g12 w5 hgl hgu hb hr
  have H12L := hid (Nat.le_trans HB.out.size hgl)
  replace HB := hid (Grow.trans HB.out hb)
  replace P := hid (grow_block P.out hb)
  replace X := hid (grow_block X.out hb)
  replace G := hid (grow_block G.out hb)
  replace HR := hid (grow_block HR.out hb)
  have H12 := hid hr; have H12U := hid hgu
  clear hr hgl hgu hb
  try simp only [Act.put, List.setIfInBounds_toArray, List.set_cons_zero, List.set_cons_succ]
  go_wp2_with (first | (refine opG_loadB rfl rfl rfl P.out Tryz.underlying54 rfl rfl ?_) | (refine opG_load1 rfl rfl rfl P.out rfl Tryz.underlying3 rfl ?_) | (refine opG_loadB rfl rfl rfl G.out Tryz.underlying58 rfl rfl ?_) | (refine opG_load1 rfl rfl rfl G.out rfl Tryz.underlying3 rfl ?_) | (refine opG_load1 rfl rfl rfl G.out rfl Tryz.underlying56 rfl ?_) | (refine op_loadId rfl rfl rfl X.out (HS.out) ?_) | (refine op_loadId rfl rfl rfl H12.out (LK.out) ?_) |  fail)
  refine (HV.out _ HB.out).mono ?_
  rintro e w6 ⟨rfl, hb⟩
  replace HB := hid (Grow.trans HB.out hb)
  replace P := hid (grow_block P.out hb)
  replace X := hid (grow_block X.out hb)
  replace G := hid (grow_block G.out hb)
  replace HR := hid (grow_block HR.out hb)
  replace H12 := hid (grow_block H12.out hb)
  clear hb
  have HBD := hid run_buildWit0
  go_wp2_with (first | (refine opG_build (ps := #[]) rfl rfl (by simp) HBD.out ?_) | (refine store_block 61 _ _ gr 0 witZ witZ witZ 61 rfl rfl rfl rfl rfl HR.out (by rw [infoWit]; rfl) (by exact Nat.le_refl _) (witC_one _ _ _ _ _ _ _) (by rfl) ?_) | fail)
  intro wz hz _ hbz
  have HZ := hid hz
  have HBZ := hid (hbz _ _ HB.out HRL.out)
  clear hz hbz
  go_wp2_with fail
  refine bodyPost_ret (ret_wit rfl rfl HZ.out rfl) rfl ⟨rfl, HBZ.out⟩
theorem find_take {l : List TxP} {j : Nat} (hj : j < l.length) (h : (l.take j).find? unlikeP = none) (d : TxP) :
    (unlikeP (l.getD j d) = true → l.find? unlikeP = some (l.getD j d)) ∧ (unlikeP (l.getD j d) = false → (l.take (j + 1)).find? unlikeP = none) := by
  have e : l.getD j d = l[j] := by simp [hj]
  rw [e]
  refine ⟨fun hu => ?_, fun hu => ?_⟩
  · have : l = l.take j ++ l[j] :: l.drop (j + 1) := by rw [← List.drop_eq_getElem_cons hj, List.take_append_drop]
    conv => lhs; rw [this]
    rw [List.find?_append, h, Option.none_or, List.find?_cons, hu]
  · rw [List.take_succ_eq_append_getElem hj, List.find?_append, h]
    simp [hu]
theorem first_take {n : Nat} {fs : List WRow} {sum : IdK} {leaf : Int} {j : Nat} (hj : j < n) (h : firstW j fs sum leaf = none) :
    (shownW fs leaf j (bitI sum j) = false → firstW n fs sum leaf = some j) ∧ (shownW fs leaf j (bitI sum j) = true → firstW (j + 1) fs sum leaf = none) := by
  unfold firstW at *
  refine ⟨fun hu => ?_, fun hu => ?_⟩
  · have : List.range n = List.range j ++ j :: (List.range' (j + 1) (n - j - 1)) := by
      rw [List.range_eq_range', List.range_eq_range', show n = j + ((n - j - 1) + 1) by omega, ← List.range'_append_1]
      simp [List.range'_succ]
    rw [this, List.find?_append, h]
    simp [hu]
  · rw [List.range_succ, List.find?_append, h]
    simp [hu]
theorem unlike_str (t : TxP) : ((bs t.1).toList == (bs t.2).toList) = !unlikeP t := by
  rw [toList_bl, toList_bl, bl_bs, bl_bs]
  unfold unlikeP
  by_cases h : t.1 = t.2
  · simp [h]
  · simp [h]
theorem unlike_eq (t : TxP) (h : unlikeP t = false) : ((bs t.1).toList != (bs t.2).toList) = false := by
  have e : t.1 = t.2 := by simpa [unlikeP] using h
  rw [e]
  simp
theorem txRow_at {w : World} {B : Nat} {v : Value} {l : List TxP} (ho : OwnTx B w v l) : ∃ A c, v = .slice A l.length c ∧ ∀ w', Grow w w' → ∀ j, j < l.length → ∃ ad, A = some ad ∧ ∀ i u, (txC (l.getD j ([], [])))[i]? = some u → w'.cell? ((ad.add (j * 2)).add i) = some u := by
  obtain ⟨A, c, e, hc⟩ := own_sl ho
  refine ⟨A, c, e, fun w' hw j hj => ?_⟩
  obtain ⟨ad, e1, e2⟩ := hc (fun e => by have := txCells_length l; rw [e] at this; simp at this; omega)
  refine ⟨ad, e1, fun i u hu => ?_⟩
  rw [addr_add_add]
  exact grow_cell (e2 _ _ (txCells_get l j i u ([], []) hj hu)) hw
theorem wFind_ok (seed : ByteArray) (hsd : seed.size ≤ 1000000) (b h : Nat) (hk : ktB b h = true) (hh2 : h ≤ 2) (A0 : Option Addr) (n0 c0 : Nat) (fs : List WRow) (sum : IdK) (hs : sum.length = 32) (leaf : Nat) (A B C : Option Addr) (n m k c d e : Nat) (shown hidden way : List IdK) (w : World)
    (h0 : WrRow w A0 fs) (hn0 : fs.length = n0) (f32 : ∀ x ∈ fs, x.2.length = 32) (hA : IdRow w A shown) (hB : IdRow w B hidden) (hC : IdRow w C way) (hn : shown.length = n) (hm : hidden.length = m) (hkk : way.length = k) (h1 : ∀ s ∈ shown, s.length = 32) (h2 : ∀ s ∈ hidden, s.length = 32) (h3 : ∀ s ∈ way, s.length = 32)
    (hf : fitsB b h leaf n m k = true) (hve : verErr b h (ktOf seed b h) sum leaf shown hidden way = 0) (hke : k ≤ e) :
    Calls Tryz.prog 27 #[.agg #[.int .i64 (b : Int), .int .i64 (h : Int)], .string seed, .slice A0 n0 c0, idV sum, .agg #[.int .i64 (leaf : Int), .slice A n c, .slice B m d, .slice C k e]] w fun r w' => r = .returned (.tuple #[.agg (findC seed b h leaf (recRes sum shown hidden) way (pubRes sum shown hidden) fs sum shown).toArray, .int .i64 0]) ∧ Below w.heap.size w w' := by
  obtain ⟨_, q1, q2, q3, q4, q5⟩ := fits_spec hf
  have hlf : leaf < 2 ^ h := by
    simp only [fitsB, Bool.and_eq_true, decide_eq_true_eq] at hf
    have := hf.2.2.1
    rw [Int.toNat_natCast] at this
    omega
  obtain ⟨b1, b2, _, _⟩ := kt_bounds hk
  have hb256 : b ≤ 256 := by omega
  have HOF := hid (fun w => ktOfC seed hsd b h hk w)
  have LK := hid (ktOf_length seed b h)
  have HV := hid (fun w1 (hg : Grow w w1) => sgVerify b h (leaf : Int) (ktOf seed b h) sum (ktOf_length seed b h) hs w1 A B C n m k c d e shown hidden way (hA.grow hg) (hB.grow hg) (hC.grow hg) hn hm hkk h1 h2 h3 hf)
  rw [hve] at HV
  have HTX := hid (fun w1 (hg : Grow w w1) => wTexts seed hsd b h hk hh2 sum hs leaf hlf A B C n m k c d e shown hidden way w1 (hA.grow hg) (hB.grow hg) (hC.grow hg) hn hm hkk h1 h2 h3 (by omega) (by omega) (by omega) hke)
  have HHO := hid (fun w1 (hg : Grow w w1) => wHonest b h hb256 A0 n0 c0 fs sum hs (leaf : Int) w1 (h0.grow hg) hn0 f32)
  have HHI := hid (fun (j : Nat) (hj : j < b) w1 (hg : Grow w w1) => wHidden A0 n0 c0 fs (leaf : Int) (bitI sum j) j (by omega) w1 (h0.grow hg) hn0 f32)
  have HBI := hid (fun (j : Nat) (hj : j < b) w1 => idBit sum hs j (by omega) w1)
  have RA := hid hA
  have HN := hid hn
  have H1 := hid h1
  have HS := hid hs
  have HNB := hid (show n = b by omega)
  have hFC : findC seed b h leaf (recRes sum shown hidden) way (pubRes sum shown hidden) fs sum shown = (match (textsW seed b h leaf (recRes sum shown hidden) way (pubRes sum shown hidden)).find? unlikeP with
    | some t => witC 2 t.1 t.2 0 0 0 (zero8 32)
    | none => if honestW b fs sum leaf then witC 1 [] [] 0 0 0 (zero8 32) else
      match firstW b fs sum leaf with
      | some k => witC 3 [] [] leaf k (bitI sum k) (shown.getD k [])
      | none => witZ) := rfl
  have HTL := hid (show (textsW seed b h leaf (recRes sum shown hidden) way (pubRes sum shown hidden)).length ≤ 10 by unfold textsW; simp; omega)
  generalize textsW seed b h leaf (recRes sum shown hidden) way (pubRes sum shown hidden) = T at *
  generalize findC seed b h leaf (recRes sum shown hidden) way (pubRes sum shown hidden) fs sum shown = F at *
  have HFC := hid hFC
  generalize ktOf seed b h = key at *
  have hb0 : (b : Int) ≤ 256 := by omega
  clear hk hs hA hB hC hn hm hkk h1 h2 h3 hf hve hke q1 q2 q3 q4 q5 hlf b1 b2 h0 hn0 f32 hFC
  go_enter Tryz.func27, Tryz.ntmps27
  have HB := hid (grow_refl w)
  apply wp_seq_k; intro _ _; apply wp_region_lit
  refine op_boxC (cs := #[.int .i64 (b : Int), .int .i64 (h : Int)]) rfl rfl rfl rfl ?_
  intro gp w1 hgl hgu hb hr
  have PL := hid (Nat.le_trans HB.out.size hgl)
  replace HB := hid (Grow.trans HB.out hb)
  have P := hid hr; have PU := hid hgu
  clear hr hgl hgu hb
  try simp only [Act.put, List.setIfInBounds_toArray, List.set_cons_zero, List.set_cons_succ]
  refine op_box (l := sum) rfl rfl rfl ?_
  intro gs w2 hgl hgu hb hr
  have XL := hid (Nat.le_trans HB.out.size hgl)
  replace HB := hid (Grow.trans HB.out hb)
  replace P := hid (grow_block P.out hb)
  have X := hid hr; have XU := hid hgu
  clear hr hgl hgu hb
  try simp only [Act.put, List.setIfInBounds_toArray, List.set_cons_zero, List.set_cons_succ]
  refine op_boxC (cs := #[.int .i64 (leaf : Int), .slice A n c, .slice B m d, .slice C k e]) rfl rfl rfl rfl ?_
  intro gx w3 hgl hgu hb hr
  have GL := hid (Nat.le_trans HB.out.size hgl)
  replace HB := hid (Grow.trans HB.out hb)
  replace P := hid (grow_block P.out hb)
  replace X := hid (grow_block X.out hb)
  have G := hid hr; have GU := hid hgu
  clear hr hgl hgu hb
  try simp only [Act.put, List.setIfInBounds_toArray, List.set_cons_zero, List.set_cons_succ]
  refine op_allocC (z := undef) (cs := witZ.toArray) rfl rfl (fun w => by kernel_rfl) ?_
  intro gr wr hgl hgu hb hr
  have HRL := hid (Nat.le_trans HB.out.size hgl)
  replace HB := hid (Grow.trans HB.out hb)
  replace P := hid (grow_block P.out hb)
  replace X := hid (grow_block X.out hb)
  replace G := hid (grow_block G.out hb)
  clear hb
  have HR := hid hr
  clear hr hgl hgu
  try simp only [Act.put, List.setIfInBounds_toArray, List.set_cons_zero, List.set_cons_succ]
  go_wp2_with (first | (refine opG_loadB rfl rfl rfl P.out Tryz.underlying54 rfl rfl ?_) | (refine opG_load1 rfl rfl rfl P.out rfl Tryz.underlying3 rfl ?_) | (refine opG_loadB rfl rfl rfl G.out Tryz.underlying58 rfl rfl ?_) | (refine opG_load1 rfl rfl rfl G.out rfl Tryz.underlying3 rfl ?_) | (refine opG_load1 rfl rfl rfl G.out rfl Tryz.underlying56 rfl ?_) | (refine op_loadId rfl rfl rfl X.out (HS.out) ?_) |  fail)
  refine (HOF.out _).mono ?_
  rintro e w4 ⟨rfl, hb⟩
  replace HB := hid (Grow.trans HB.out hb)
  replace P := hid (grow_block P.out hb)
  replace X := hid (grow_block X.out hb)
  replace G := hid (grow_block G.out hb)
  replace HR := hid (grow_block HR.out hb)
  clear hb
  go_wp2_with (first | (refine opG_loadB rfl rfl rfl P.out Tryz.underlying54 rfl rfl ?_) | (refine opG_load1 rfl rfl rfl P.out rfl Tryz.underlying3 rfl ?_) | (refine opG_loadB rfl rfl rfl G.out Tryz.underlying58 rfl rfl ?_) | (refine opG_load1 rfl rfl rfl G.out rfl Tryz.underlying3 rfl ?_) | (refine opG_load1 rfl rfl rfl G.out rfl Tryz.underlying56 rfl ?_) | (refine op_loadId rfl rfl rfl X.out (HS.out) ?_) |  (refine op_allocstore (l := key) rfl rfl rfl rfl rfl rfl (fun _ => rfl) ⟨fun _ => rfl, LK.out⟩ ?_))
  intro g12 w5 hgl hgu hb hr
  have H12L := hid (Nat.le_trans HB.out.size hgl)
  replace HB := hid (Grow.trans HB.out hb)
  replace P := hid (grow_block P.out hb)
  replace X := hid (grow_block X.out hb)
  replace G := hid (grow_block G.out hb)
  replace HR := hid (grow_block HR.out hb)
  have H12 := hid hr; have H12U := hid hgu
  clear hr hgl hgu hb
  try simp only [Act.put, List.setIfInBounds_toArray, List.set_cons_zero, List.set_cons_succ]
  go_wp2_with (first | (refine opG_loadB rfl rfl rfl P.out Tryz.underlying54 rfl rfl ?_) | (refine opG_load1 rfl rfl rfl P.out rfl Tryz.underlying3 rfl ?_) | (refine opG_loadB rfl rfl rfl G.out Tryz.underlying58 rfl rfl ?_) | (refine opG_load1 rfl rfl rfl G.out rfl Tryz.underlying3 rfl ?_) | (refine opG_load1 rfl rfl rfl G.out rfl Tryz.underlying56 rfl ?_) | (refine op_loadId rfl rfl rfl X.out (HS.out) ?_) | (refine op_loadId rfl rfl rfl H12.out (LK.out) ?_) |  fail)
  refine (HV.out _ HB.out).mono ?_
  rintro e w6 ⟨rfl, hb⟩
  replace HB := hid (Grow.trans HB.out hb)
  replace P := hid (grow_block P.out hb)
  replace X := hid (grow_block X.out hb)
  replace G := hid (grow_block G.out hb)
  replace HR := hid (grow_block HR.out hb)
  replace H12 := hid (grow_block H12.out hb)
  clear hb
  clear H12 H12L H12U
  go_wp2_with (first | (refine opG_loadB rfl rfl rfl P.out Tryz.underlying54 rfl rfl ?_) | (refine opG_load1 rfl rfl rfl P.out rfl Tryz.underlying3 rfl ?_) | (refine opG_loadB rfl rfl rfl G.out Tryz.underlying58 rfl rfl ?_) | (refine opG_load1 rfl rfl rfl G.out rfl Tryz.underlying3 rfl ?_) | (refine opG_load1 rfl rfl rfl G.out rfl Tryz.underlying56 rfl ?_) | (refine op_loadId rfl rfl rfl X.out (HS.out) ?_) |  fail)
  refine (HTX.out _ HB.out).mono ?_
  rintro _ wt ⟨v, rfl, ho, hb⟩
  replace HB := hid (Grow.trans HB.out hb)
  replace P := hid (grow_block P.out hb)
  replace X := hid (grow_block X.out hb)
  replace G := hid (grow_block G.out hb)
  replace HR := hid (grow_block HR.out hb)
  clear hb
  obtain ⟨At, ct, rfl, hcell⟩ := txRow_at ho
  have HCT := hid hcell
  clear ho hcell
  have HG := hid (grow_refl wt)
  have HTN := hid (show T.length ≤ 10 from HTL.out)
  have tl0 : (T.length : Int) ≤ 10 := by have := HTL.out; omega
  have H00 := hid (show (T.take 0).find? unlikeP = none from rfl)
  go_wp2_with (first | (refine opG_loadB rfl rfl rfl P.out Tryz.underlying54 rfl rfl ?_) | (refine opG_load1 rfl rfl rfl P.out rfl Tryz.underlying3 rfl ?_) | (refine opG_loadB rfl rfl rfl G.out Tryz.underlying58 rfl rfl ?_) | (refine opG_load1 rfl rfl rfl G.out rfl Tryz.underlying3 rfl ?_) | (refine opG_load1 rfl rfl rfl G.out rfl Tryz.underlying56 rfl ?_) | (refine op_loadId rfl rfl rfl X.out (HS.out) ?_) |  fail)
  go_loopg [41] (T.length + 1) (fun z i wr => ∃ j : Nat, j ≤ T.length ∧ z = T.length + 1 - j ∧ i = .int .i64 (j : Int) ∧ Hid ((T.take j).find? unlikeP = none) ∧ Hid (wr.heap[gp]? = some (.cells #[.int .i64 (b : Int), .int .i64 (h : Int)] 54 (0, 0))) ∧ Hid (wr.heap[gs]? = some (.cells (u8s sum).toArray 42 (0, 0))) ∧ Hid (wr.heap[gx]? = some (.cells #[.int .i64 (leaf : Int), .slice A n c, .slice B m d, .slice C k e] 58 (0, 0))) ∧ Hid (wr.heap[gr]? = some (.cells witZ.toArray 61 (0, 0))) ∧ Hid (Grow w wr) ∧ Hid (Grow wt wr))
  case atStart => exact ⟨0, by omega, rfl, rfl, H00, P, X, G, HR, HB, HG⟩
  case round =>
    clear P X G HR HB HG H00
    obtain ⟨j, hj, hz, rfl, HFI, P, X, G, HR, HB, HG⟩ := hrel
    by_cases hlt : j < T.length
    · have j0 : (0 : Int) ≤ (j : Int) := by omega
      have j1 : (j : Int) < (T.length : Int) := by omega
      obtain ⟨ad, rfl, hc⟩ := HCT.out _ HG.out j hlt
      have HC := hid hc
      obtain ⟨F1, F2⟩ := find_take hlt HFI.out ([], [])
      generalize T.getD j ([], []) = t at *
      have HF1 := hid F1
      have HF2 := hid F2
      have tq0 := unlike_str t
      clear hc F1 F2
      go_wp2_with (first | (refine wpList_load_agg rfl 112 _ rfl _ rfl (txC t) _ HC.out Tryz.underlying112 rfl (infoTx t) ?_) | (refine op_allocstoreB (z := txC ([], [])) (cs := txC t) rfl rfl rfl rfl rfl rfl (fun _ => by kernel_rfl) (fun _ => rfl) (fun _ => rfl) rfl (infoTx t) (txC_one t) ?_) | fail)
      intro g15 w15 hgl hgu hb hr
      replace HB := hid (Grow.trans HB.out hb)
      replace P := hid (grow_block P.out hb)
      replace X := hid (grow_block X.out hb)
      replace G := hid (grow_block G.out hb)
      replace HR := hid (grow_block HR.out hb)
      replace HG := hid (Grow.trans HG.out hb)
      clear hb
      have H15 := hid hr
      clear hgl hgu hr HC
      cases hu : unlikeP t with
      | true =>
        have HFF := hid (HF1.out hu)
        have tq : ((bs t.1).toList == (bs t.2).toList) = false := by rw [tq0, hu]; rfl
        have HFE := hid (show F = witC 2 t.1 t.2 0 0 0 (zero8 32) by rw [HFC.out, HFF.out])
        have HBD := hid (run_buildWit2 t.1 t.2)
        clear hu HF1 HF2 tq0
        go_wp2_with (first | (refine opG_load1 (i := 0) (v := .string (bs t.1)) rfl rfl rfl H15.out rfl Tryz.underlying9 rfl ?_) | (refine opG_load1 (i := 1) (v := .string (bs t.2)) rfl rfl rfl H15.out rfl Tryz.underlying9 rfl ?_) | (refine opG_build (ps := #[(0, .int .i64 2), (1, .string (bs t.1)), (2, .string (bs t.2))]) rfl rfl (by simp only [List.map_toArray, List.map_cons, List.map_nil]; rfl) HBD.out ?_) | (refine store_block 61 _ _ gr 0 (witC 2 t.1 t.2 0 0 0 (zero8 32)) witZ (witC 2 t.1 t.2 0 0 0 (zero8 32)) 61 rfl rfl rfl rfl rfl HR.out (by rw [infoWit]; rfl) (by exact Nat.le_refl _) (witC_one _ _ _ _ _ _ _) (by rfl) ?_) | fail)
        intro wz hz _ hbz
        have HZ := hid hz
        have HBZ := hid (hbz _ _ HB.out HRL.out)
        clear hz hbz
        go_wp2_with fail
        refine bodyPost_ret (ret_wit rfl rfl HZ.out rfl) rfl ⟨?_, HBZ.out⟩
        rw [HFE.out]
        rfl
      | false =>
        have HFN := hid (HF2.out hu)
        have tq2 := unlike_eq t hu
        have tq : ((bs t.1).toList == (bs t.2).toList) = true := by rw [tq0, hu]; rfl
        clear hu HF1 HF2 tq0
        go_wp2_with (first | (refine opG_load1 (i := 0) (v := .string (bs t.1)) rfl rfl rfl H15.out rfl Tryz.underlying9 rfl ?_) | (refine opG_load1 (i := 1) (v := .string (bs t.2)) rfl rfl rfl H15.out rfl Tryz.underlying9 rfl ?_) | fail)
        go_roundg (T.length + 1 - (j + 1))
        case rel => exact ⟨j + 1, by omega, rfl, by go_num, HFN, P, X, G, HR, HB, HG⟩
        case measure => omega
    · obtain rfl : j = T.length := by omega
      rw [List.take_length] at HFI
      have HFC2 := hid (show F = if honestW b fs sum leaf then witC 1 [] [] 0 0 0 (zero8 32) else
        match firstW b fs sum leaf with
        | some k => witC 3 [] [] leaf k (bitI sum k) (shown.getD k [])
        | none => witZ by rw [HFC.out, HFI.out])
      clear HFC HFI HCT hlt hj hz
      go_wp2_with (first | (refine opG_loadB rfl rfl rfl P.out Tryz.underlying54 rfl rfl ?_) | (refine opG_load1 rfl rfl rfl P.out rfl Tryz.underlying3 rfl ?_) | (refine opG_loadB rfl rfl rfl G.out Tryz.underlying58 rfl rfl ?_) | (refine opG_load1 rfl rfl rfl G.out rfl Tryz.underlying3 rfl ?_) | (refine opG_load1 rfl rfl rfl G.out rfl Tryz.underlying56 rfl ?_) | (refine op_loadId rfl rfl rfl X.out (HS.out) ?_) |  fail)
      refine (HHO.out _ HB.out).mono ?_
      rintro e w7 ⟨rfl, hb⟩
      replace HB := hid (Grow.trans HB.out hb)
      replace P := hid (grow_block P.out hb)
      replace X := hid (grow_block X.out hb)
      replace G := hid (grow_block G.out hb)
      replace HR := hid (grow_block HR.out hb)
      replace HG := hid (Grow.trans HG.out hb)
      clear hb
      cases hho : honestW b fs sum leaf with
      | true =>
        have HFE := hid (show F = witC 1 [] [] 0 0 0 (zero8 32) by rw [HFC2.out, hho]; rfl)
        have HBD := hid run_buildWit1
        clear HFC2 hho
        go_wp2_with (first | (refine opG_build (ps := #[(0, .int .i64 1)]) rfl rfl (by simp only [List.map_toArray, List.map_cons, List.map_nil]; rfl) HBD.out ?_) | (refine store_block 61 _ _ gr 0 (witC 1 [] [] 0 0 0 (zero8 32)) witZ (witC 1 [] [] 0 0 0 (zero8 32)) 61 rfl rfl rfl rfl rfl HR.out (by rw [infoWit]; rfl) (by exact Nat.le_refl _) (witC_one _ _ _ _ _ _ _) (by rfl) ?_) | fail)
        intro wz hz _ hbz
        have HZ := hid hz
        have HBZ := hid (hbz _ _ HB.out HRL.out)
        clear hz hbz
        go_wp2_with fail
        refine bodyPost_ret (ret_wit rfl rfl HZ.out rfl) rfl ⟨?_, HBZ.out⟩
        rw [HFE.out]
        rfl
      | false =>
        have HFC3 := hid (show F = match firstW b fs sum leaf with
          | some k => witC 3 [] [] leaf k (bitI sum k) (shown.getD k [])
          | none => witZ by rw [HFC2.out, hho]; rfl)
        clear HFC2 hho
        go_wp2_with (first | (refine opG_loadB rfl rfl rfl P.out Tryz.underlying54 rfl rfl ?_) | (refine opG_load1 rfl rfl rfl P.out rfl Tryz.underlying3 rfl ?_) | (refine opG_loadB rfl rfl rfl G.out Tryz.underlying58 rfl rfl ?_) | (refine opG_load1 rfl rfl rfl G.out rfl Tryz.underlying3 rfl ?_) | (refine opG_load1 rfl rfl rfl G.out rfl Tryz.underlying56 rfl ?_) | (refine op_loadId rfl rfl rfl X.out (HS.out) ?_) |  fail)
        have H00 := hid (show firstW 0 fs sum leaf = none from rfl)
        go_loopg [65] (b + 1) (fun z i wr => ∃ j : Nat, j ≤ b ∧ z = b + 1 - j ∧ i = .int .i64 (j : Int) ∧ Hid (firstW j fs sum leaf = none) ∧ Hid (wr.heap[gp]? = some (.cells #[.int .i64 (b : Int), .int .i64 (h : Int)] 54 (0, 0))) ∧ Hid (wr.heap[gs]? = some (.cells (u8s sum).toArray 42 (0, 0))) ∧ Hid (wr.heap[gx]? = some (.cells #[.int .i64 (leaf : Int), .slice A n c, .slice B m d, .slice C k e] 58 (0, 0))) ∧ Hid (wr.heap[gr]? = some (.cells witZ.toArray 61 (0, 0))) ∧ Hid (Grow w wr))
        case atStart => exact ⟨0, by omega, rfl, rfl, H00, P, X, G, HR, HB⟩
        case round =>
          clear P X G HR HB HG H00
          obtain ⟨j, hj, hz, rfl, HFI, P, X, G, HR, HB⟩ := hrel
          by_cases hlt : j < b
          · have j0 : (0 : Int) ≤ (j : Int) := by omega
            have j1 : (j : Int) < (b : Int) := by omega
            have HBJ := hid (HBI.out j hlt)
            have HHJ := hid (HHI.out j hlt)
            obtain ⟨F1, F2⟩ := first_take hlt HFI.out
            have HF1 := hid F1
            have HF2 := hid F2
            have jn : (j : Int) < (n : Int) := by have := HNB.out; omega
            clear F1 F2
            go_wp2_with (first | (refine opG_loadB rfl rfl rfl P.out Tryz.underlying54 rfl rfl ?_) | (refine opG_load1 rfl rfl rfl P.out rfl Tryz.underlying3 rfl ?_) | (refine opG_loadB rfl rfl rfl G.out Tryz.underlying58 rfl rfl ?_) | (refine opG_load1 rfl rfl rfl G.out rfl Tryz.underlying3 rfl ?_) | (refine opG_load1 rfl rfl rfl G.out rfl Tryz.underlying56 rfl ?_) | (refine op_loadId rfl rfl rfl X.out (HS.out) ?_) |  fail)
            refine (HBJ.out _).mono ?_
            rintro e w8 ⟨rfl, hb⟩
            replace HB := hid (Grow.trans HB.out hb)
            replace P := hid (grow_block P.out hb)
            replace X := hid (grow_block X.out hb)
            replace G := hid (grow_block G.out hb)
            replace HR := hid (grow_block HR.out hb)
            clear hb
            go_wp2_with (first | (refine opG_loadB rfl rfl rfl P.out Tryz.underlying54 rfl rfl ?_) | (refine opG_load1 rfl rfl rfl P.out rfl Tryz.underlying3 rfl ?_) | (refine opG_loadB rfl rfl rfl G.out Tryz.underlying58 rfl rfl ?_) | (refine opG_load1 rfl rfl rfl G.out rfl Tryz.underlying3 rfl ?_) | (refine opG_load1 rfl rfl rfl G.out rfl Tryz.underlying56 rfl ?_) | (refine op_loadId rfl rfl rfl X.out (HS.out) ?_) |  fail)
            refine (HHJ.out _ HB.out).mono ?_
            rintro e w9 ⟨rfl, hb⟩
            replace HB := hid (Grow.trans HB.out hb)
            replace P := hid (grow_block P.out hb)
            replace X := hid (grow_block X.out hb)
            replace G := hid (grow_block G.out hb)
            replace HR := hid (grow_block HR.out hb)
            clear hb
            cases hsw : shownW fs leaf j (bitI sum j) with
            | true =>
              have HFN := hid (HF2.out hsw)
              clear HF1 HF2 hsw
              go_wp2_with fail
              go_roundg (b + 1 - (j + 1))
              case rel => exact ⟨j + 1, by omega, rfl, by go_num, HFN, P, X, G, HR, HB⟩
              case measure => omega
            | false =>
              have HFE := hid (show F = witC 3 [] [] leaf j (bitI sum j) (shown.getD j []) by rw [HFC3.out, HF1.out hsw])
              obtain ⟨ads, rfl, hcs⟩ := (RA.out.grow HB.out).at_ j (by rw [HN.out, HNB.out]; exact hlt)
              have HCS := hid hcs
              have LS := hid (getD_mem_len H1.out (show j < shown.length by rw [HN.out, HNB.out]; exact hlt))
              generalize shown.getD j [] = val at *
              generalize bitI sum j = side at *
              have HBD := hid (run_buildWit3 leaf j side val LS.out)
              clear HF1 HF2 hsw hcs
              go_wp2_with fail
              refine wp_region_floatG (fun W => W.heap[gx]? = some (.cells #[.int .i64 (leaf : Int), .slice (some ads) n c, .slice B m d, .slice C k e] 58 (0, 0)) ∧ ∀ i v, (u8s val)[i]? = some v → W.cell? ((ads.add (j * 32)).add i) = some v) [0, 1, 2, 3, 4, 5, 6, 7, 8, 9] [] [10, 11] rfl (by kernel_rfl) rfl (by kernel_rfl) (by kernel_rfl) ?_
              intro w9x hb
              have HCS2 := hid (fun i v hv => grow_cell (HCS.out i v hv) hb)
              replace HB := hid (Grow.trans HB.out hb)
              replace P := hid (grow_block P.out hb)
              replace X := hid (grow_block X.out hb)
              replace G := hid (grow_block G.out hb)
              replace HR := hid (grow_block HR.out hb)
              clear hb
              refine ⟨⟨G.out, HCS2.out⟩, ?_⟩
              (refine' pickT_val ?po1 ?pw1 ?pr1 ?pq1 ?ph1; (case' po1 => exact rfl); (case' pw1 => rfl); (case' pq1 => (exact fun _ _ _ h => h)); (case' pr1 => (intro w' hw'; go_simp; with_reducible rfl)); (case' ph1 => (try simp only [List.getElem_toArray, List.getElem_cons_zero, List.getElem_cons_succ, Act.put, List.setIfInBounds_toArray, List.set_cons_zero, List.set_cons_succ])))
              (refine' pickT_val (v := .int .i64 (leaf : Int)) ?po2 ?pw2 ?pr2 ?pq2 ?ph2; (case' po2 => exact rfl); (case' pw2 => rfl); (case' pq2 => (exact fun _ _ _ h => h)); (case' pr2 => (intro w' hw'; exact run_opLoadC (i := 0) (v := .int .i64 (leaf : Int)) rfl rfl hw'.1 rfl Tryz.underlying3 rfl)); (case' ph2 => (try simp only [List.getElem_toArray, List.getElem_cons_zero, List.getElem_cons_succ, Act.put, List.setIfInBounds_toArray, List.set_cons_zero, List.set_cons_succ])))
              (refine' pickT_val ?po3 ?pw3 ?pr3 ?pq3 ?ph3; (case' po3 => exact rfl); (case' pw3 => rfl); (case' pq3 => (exact fun _ _ _ h => h)); (case' pr3 => (intro w' hw'; go_simp; with_reducible rfl)); (case' ph3 => (try simp only [List.getElem_toArray, List.getElem_cons_zero, List.getElem_cons_succ, Act.put, List.setIfInBounds_toArray, List.set_cons_zero, List.set_cons_succ]))); (refine' pickT_val ?po4 ?pw4 ?pr4 ?pq4 ?ph4; (case' po4 => exact rfl); (case' pw4 => rfl); (case' pq4 => (exact fun _ _ _ h => h)); (case' pr4 => (intro w' hw'; go_simp; with_reducible rfl)); (case' ph4 => (try simp only [List.getElem_toArray, List.getElem_cons_zero, List.getElem_cons_succ, Act.put, List.setIfInBounds_toArray, List.set_cons_zero, List.set_cons_succ]))); (refine' pickT_val ?po5 ?pw5 ?pr5 ?pq5 ?ph5; (case' po5 => exact rfl); (case' pw5 => rfl); (case' pq5 => (exact fun _ _ _ h => h)); (case' pr5 => (intro w' hw'; go_simp; with_reducible rfl)); (case' ph5 => (try simp only [List.getElem_toArray, List.getElem_cons_zero, List.getElem_cons_succ, Act.put, List.setIfInBounds_toArray, List.set_cons_zero, List.set_cons_succ])))
              (refine' pickT_val (v := .slice (some ads) n c) ?po6 ?pw6 ?pr6 ?pq6 ?ph6; (case' po6 => exact rfl); (case' pw6 => rfl); (case' pq6 => (exact fun _ _ _ h => h)); (case' pr6 => (intro w' hw'; exact run_opLoadC (i := 1) (v := .slice (some ads) n c) rfl rfl hw'.1 rfl Tryz.underlying56 rfl)); (case' ph6 => (try simp only [List.getElem_toArray, List.getElem_cons_zero, List.getElem_cons_succ, Act.put, List.setIfInBounds_toArray, List.set_cons_zero, List.set_cons_succ])))
              (refine' pickT_val ?po7 ?pw7 ?pr7 ?pq7 ?ph7; (case' po7 => exact rfl); (case' pw7 => rfl); (case' pq7 => (exact fun _ _ _ h => h)); (case' pr7 => (intro w' hw'; go_simp; with_reducible rfl)); (case' ph7 => (try simp only [List.getElem_toArray, List.getElem_cons_zero, List.getElem_cons_succ, Act.put, List.setIfInBounds_toArray, List.set_cons_zero, List.set_cons_succ]))); (refine' pickT_val ?po8 ?pw8 ?pr8 ?pq8 ?ph8; (case' po8 => exact rfl); (case' pw8 => rfl); (case' pq8 => (exact fun _ _ _ h => h)); (case' pr8 => (intro w' hw'; go_simp; with_reducible rfl)); (case' ph8 => (try simp only [List.getElem_toArray, List.getElem_cons_zero, List.getElem_cons_succ, Act.put, List.setIfInBounds_toArray, List.set_cons_zero, List.set_cons_succ])))
              (refine' pickT_val (v := idV val) ?po9 ?pw9 ?pr9 ?pq9 ?ph9; (case' po9 => exact rfl); (case' pw9 => rfl); (case' pq9 => (exact fun _ _ _ h => h)); (case' pr9 => (intro w' hw'; exact run_opLoadAt rfl rfl hw'.2 LS.out)); (case' ph9 => (try simp only [List.getElem_toArray, List.getElem_cons_zero, List.getElem_cons_succ, Act.put, List.setIfInBounds_toArray, List.set_cons_zero, List.set_cons_succ])))
              (refine' pickT_val (v := .agg (witC 3 [] [] leaf j side val).toArray) ?po10 ?pw10 ?pr10 ?pq10 ?ph10; (case' po10 => exact rfl); (case' pw10 => rfl); (case' pq10 => (exact fun _ _ _ h => h)); (case' pr10 => (intro w' hw'; exact run_opBuildW rfl (by simp only [List.map_toArray, List.map_cons, List.map_nil]; rfl) HBD.out)); (case' ph10 => (try simp only [List.getElem_toArray, List.getElem_cons_zero, List.getElem_cons_succ, Act.put, List.setIfInBounds_toArray, List.set_cons_zero, List.set_cons_succ])))
              refine pickT_nil ?_
              refine seqT_nil ?_
              show wpList _ _ _ (_ :: _ :: []) _ _
              go_wp2_with (first | (refine store_block 61 _ _ gr 0 (witC 3 [] [] leaf j side val) witZ (witC 3 [] [] leaf j side val) 61 rfl rfl rfl rfl rfl HR.out (by rw [infoWit, witC_length LS.out]) (by rw [witC_length LS.out]; exact Nat.le_refl _) (witC_one _ _ _ _ _ _ _) (by rw [List.take_zero, List.nil_append, List.drop_eq_nil_of_le (by rw [witC_length LS.out]; exact Nat.le_refl _), List.append_nil]) ?_) | fail)
              intro wz hz _ hbz
              have HZ := hid hz
              have HBZ := hid (hbz _ _ HB.out HRL.out)
              clear hz hbz
              go_wp2_with fail
              refine bodyPost_ret (ret_wit rfl rfl HZ.out (by rw [List.size_toArray, witC_length LS.out])) rfl ⟨?_, HBZ.out⟩
              rw [HFE.out]
              rfl
          · obtain rfl : j = b := by omega
            have HFE := hid (show F = witZ by rw [HFC3.out, HFI.out])
            have HBD := hid run_buildWit0
            go_wp2_with (first | (refine opG_build (ps := #[]) rfl rfl (by simp) HBD.out ?_) | (refine store_block 61 _ _ gr 0 witZ witZ witZ 61 rfl rfl rfl rfl rfl HR.out (by rw [infoWit]; rfl) (by exact Nat.le_refl _) (witC_one _ _ _ _ _ _ _) (by rfl) ?_) | fail)
            intro wz hz _ hbz
            have HZ := hid hz
            have HBZ := hid (hbz _ _ HB.out HRL.out)
            clear hz hbz
            go_wp2_with fail
            refine bodyPost_ret (ret_wit rfl rfl HZ.out rfl) rfl ⟨?_, HBZ.out⟩
            rw [HFE.out]
            rfl
end Go.Proofs.YtabkaflccaklhaaGreat
