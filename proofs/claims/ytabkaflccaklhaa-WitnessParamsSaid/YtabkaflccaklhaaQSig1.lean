/- signer.Signer: Next, Key, Left, Skip, New: contracts. -/
import Derived.Test.YtabkaflccaklhaaQKeyG
import Derived.Test.YtabkaflccaklhaaQEager
set_option linter.unusedSimpArgs false
set_option linter.unusedVariables false
namespace Go.Proofs.Ytabkaflccaklhaa
open Go.RowKit
open Go.Qk hiding rotr b4
set_option maxHeartbeats 1000000
set_option maxRecDepth 100000
def sgC (b h : Int) (seed : ByteArray) (key : IdK) (next : Int) : List Value := [.int .i64 b, .int .i64 h] ++ ([.string seed] ++ (u8s key ++ [.int .i64 next]))
def IsSg (w : World) (g : Nat) (b h : Int) (seed : ByteArray) (key : IdK) (next : Int) : Prop := w.heap[g]? = some (.cells (sgC b h seed key next).toArray 215 (0, 0))
theorem sgC_length (b h : Int) (seed : ByteArray) (key : IdK) (next : Int) (hk : key.length = 32) : (sgC b h seed key next).length = 36 := by simp [sgC, u8s_length, hk]
theorem sgC_35 (b h : Int) (seed : ByteArray) (key : IdK) (next : Int) (hk : key.length = 32) : (sgC b h seed key next).toArray[35]? = some (.int .i64 next) := by
  unfold sgC
  rw [List.getElem?_toArray, List.getElem?_append_right (by simp), List.getElem?_append_right (by simp), List.getElem?_append_right (by simp [u8s_length, hk])]
  simp [u8s_length, hk]
theorem sgC_set (b h : Int) (seed : ByteArray) (key : IdK) (next tt : Int) (hk : key.length = 32) : (sgC b h seed key next).toArray.setIfInBounds 35 (.int .i64 tt) = (sgC b h seed key tt).toArray := by
  unfold sgC
  rw [List.setIfInBounds_toArray, List.set_append_right _ _ (by simp), List.set_append_right _ _ (by simp), List.set_append_right _ _ (by simp [u8s_length, hk])]
  simp [u8s_length, hk]
theorem sg_next {w : World} {g : Nat} {b h : Int} {seed : ByteArray} {key : IdK} {next : Int} (hg : IsSg w g b h seed key next) (hk : key.length = 32) : w.cell? ⟨g, 35, none⟩ = some (.int .i64 next) := blk_cell hg (sgC_35 b h seed key next hk)
theorem sg_seed {w : World} {g : Nat} {b h : Int} {seed : ByteArray} {key : IdK} {next : Int} (hg : IsSg w g b h seed key next) : w.cell? ⟨g, 2, none⟩ = some (.string seed) := blk_cell hg rfl
theorem sg_bits {w : World} {g : Nat} {b h : Int} {seed : ByteArray} {key : IdK} {next : Int} (hg : IsSg w g b h seed key next) : w.cell? ⟨g, 0, none⟩ = some (.int .i64 b) := blk_cell hg rfl
theorem sg_key {w : World} {g : Nat} {b h : Int} {seed : ByteArray} {key : IdK} {next : Int} (hg : IsSg w g b h seed key next) (j : Nat) (v : Value) (hv : (u8s key)[j]? = some v) : w.cell? ((⟨g, 3, none⟩ : Addr).add j) = some v := by
  have hj := (List.getElem?_eq_some_iff.1 hv).1
  have e : (⟨g, 3, none⟩ : Addr).add j = ⟨g, 3 + j, none⟩ := by unfold Addr.add; split <;> simp_all
  rw [e]
  refine blk_cell hg ?_
  unfold sgC
  rw [List.getElem?_toArray, List.getElem?_append_right (by simp; omega), List.getElem?_append_right (by simp; omega), List.getElem?_append_left (by simp; omega)]
  simpa [show 3 + j - 2 - 1 = j by omega] using hv
theorem sgLeft (g : Nat) (b h : Nat) (seed : ByteArray) (key : IdK) (x n : Nat) (hn : n = if ktB b h then 2 ^ h else 0) (hx : x ≤ n) (hn2 : n ≤ 1024) (hk : key.length = 32) (w : World) (hg : IsSg w g b h seed key (x : Int)) :
    Calls Try.prog 131 #[.pointer (some ⟨g, 0, none⟩)] w fun e w' => e = .returned (.int .i64 ((n - x : Nat) : Int)) ∧ Below w.heap.size w w' := by
  have HG := hid hg
  have HK := hid hk
  have HLV := hid (fun w => ktLeaves b h n (by simpa using hn) w)
  have hsub : (n : Int) - (x : Int) = ((n - x : Nat) : Int) := by omega
  have hwr : IntKind.i64.wrap ((n - x : Nat) : Int) = ((n - x : Nat) : Int) := IntWalk.i64_in _ (by omega)
  have n1 : (n : Int) ≤ 1024 := by omega
  have x1 : (x : Int) ≤ (n : Int) := by omega
  clear hg hk hn hx
  go_enter Try.func131, Try.ntmps131
  have HB := hid (grow_refl w)
  go_wp2_with fail
  (refine' wp_region_head 11 0 [_, _, _, _, _, _, _, _, _, _, _] rfl (by kernel_rfl) (by kernel_rfl) ?hreg1; case' hreg1 => simp only [List.take_succ_cons, List.take_zero, List.zip_cons_cons, List.zip_nil_right, List.drop_succ_cons, List.drop_zero, List.drop_nil])
  (refine' head_val ?dw2 ?de2 ?dr2 ?dh2; (case' dw2 => rfl); (case' de2 => (first | exact fun _ _ _ => trivial | (intro t ht w; cases ht; simp [upE]))); (case' dr2 => (intro w' hw' _; go_simp; with_reducible rfl)); (case' dh2 => (try simp only [Act.put, List.setIfInBounds_toArray, List.set_cons_zero, List.set_cons_succ]))); (refine' head_val ?dw3 ?de3 ?dr3 ?dh3; (case' dw3 => rfl); (case' de3 => (first | exact fun _ _ _ => trivial | (intro t ht w; cases ht; simp [upE]))); (case' dr3 => (intro w' hw' _; go_simp; with_reducible rfl)); (case' dh3 => (try simp only [Act.put, List.setIfInBounds_toArray, List.set_cons_zero, List.set_cons_succ]))); (refine' head_val ?dw4 ?de4 ?dr4 ?dh4; (case' dw4 => rfl); (case' de4 => (first | exact fun _ _ _ => trivial | (intro t ht w; cases ht; simp [upE]))); (case' dr4 => (intro w' hw' _; go_simp; with_reducible rfl)); (case' dh4 => (try simp only [Act.put, List.setIfInBounds_toArray, List.set_cons_zero, List.set_cons_succ])))
  (refine' head_val (v := .agg #[.int .i64 (b : Int), .int .i64 (h : Int)]) ?dw5 ?de5 ?dr5 ?dh5; (case' dw5 => rfl); (case' de5 => (first | exact fun _ _ _ => trivial | (intro t ht w; cases ht; simp [upE]))); (case' dr5 => (intro w' hw' hE; exact run_opLoadM (pre := []) (cs := [.int .i64 (b : Int), .int .i64 (h : Int)]) (post := _) rfl rfl (grow_block HG.out hw') rfl Try.underlying92 rfl rfl)); (case' dh5 => (try simp only [Act.put, List.setIfInBounds_toArray, List.set_cons_zero, List.set_cons_succ])))
  (refine' head_call ?cw6 ?ce6 ?cr6 ?cc6 ?ch6; (case' cw6 => rfl); (case' ce6 => (first | exact fun _ _ _ => trivial | (intro t ht w; cases ht; simp [upE]))); (case' cr6 => (intro w'; go_simp; first | exact ⟨rfl, rfl⟩ | with_reducible rfl)); (case' cc6 => (intro w' hw' _; exact HLV.out w')); (case' ch6 => (try simp only [Act.put, List.setIfInBounds_toArray, List.set_cons_zero, List.set_cons_succ])))
  (refine' head_val ?dw7 ?de7 ?dr7 ?dh7; (case' dw7 => rfl); (case' de7 => (first | exact fun _ _ _ => trivial | (intro t ht w; cases ht; simp [upE]))); (case' dr7 => (intro w' hw' _; go_simp; with_reducible rfl)); (case' dh7 => (try simp only [Act.put, List.setIfInBounds_toArray, List.set_cons_zero, List.set_cons_succ]))); (refine' head_val ?dw8 ?de8 ?dr8 ?dh8; (case' dw8 => rfl); (case' de8 => (first | exact fun _ _ _ => trivial | (intro t ht w; cases ht; simp [upE]))); (case' dr8 => (intro w' hw' _; go_simp; with_reducible rfl)); (case' dh8 => (try simp only [Act.put, List.setIfInBounds_toArray, List.set_cons_zero, List.set_cons_succ]))); (refine' head_val ?dw9 ?de9 ?dr9 ?dh9; (case' dw9 => rfl); (case' de9 => (first | exact fun _ _ _ => trivial | (intro t ht w; cases ht; simp [upE]))); (case' dr9 => (intro w' hw' _; go_simp; with_reducible rfl)); (case' dh9 => (try simp only [Act.put, List.setIfInBounds_toArray, List.set_cons_zero, List.set_cons_succ])))
  (refine' head_val (v := .int .i64 (x : Int)) ?dw10 ?de10 ?dr10 ?dh10; (case' dw10 => rfl); (case' de10 => (first | exact fun _ _ _ => trivial | (intro t ht w; cases ht; simp [upE]))); (case' dr10 => (intro w' hw' hE; exact run_opLoad1 rfl rfl (sg_next (grow_block HG.out hw') HK.out) Try.underlying3 rfl)); (case' dh10 => (try simp only [Act.put, List.setIfInBounds_toArray, List.set_cons_zero, List.set_cons_succ])))
  (refine' head_val ?dw11 ?de11 ?dr11 ?dh11; (case' dw11 => rfl); (case' de11 => (first | exact fun _ _ _ => trivial | (intro t ht w; cases ht; simp [upE]))); (case' dr11 => (intro w' hw' _; go_simp; with_reducible rfl)); (case' dh11 => (try simp only [Act.put, List.setIfInBounds_toArray, List.set_cons_zero, List.set_cons_succ]))); (refine' head_val ?dw12 ?de12 ?dr12 ?dh12; (case' dw12 => rfl); (case' de12 => (first | exact fun _ _ _ => trivial | (intro t ht w; cases ht; simp [upE]))); (case' dr12 => (intro w' hw' _; go_simp; with_reducible rfl)); (case' dh12 => (try simp only [Act.put, List.setIfInBounds_toArray, List.set_cons_zero, List.set_cons_succ])))
  refine head_nil ?_
  intro w1 hb _
  replace HB := hid (Grow.trans HB.out hb)
  clear hb
  refine wpList_nil ?_
  go_wp2_with fail
  go_ret
  exact ⟨ret_int (by omega), HB.out⟩
theorem opG_loadM {ops : Array Oper} {Q : Exit → Act → World → Prop} {rest : List Oper} {o : Oper} {a : Act} {w : World} {x : Operand} {g off : Nat} {T t : TypeId} {pre cs post : List Value} {fr : Nat × Nat} {d : TypeDesc} (ho : o.op = .load T x) (hw : Region.wanted o (yielded ops a.tmps) = true) (hx : a.eval x = .pointer (some ⟨g, off, none⟩)) (hg : w.heap[g]? = some (.cells (pre ++ (cs ++ post)).toArray t fr)) (hoff : pre.length = off)
    (hu : Try.prog.underlying T = some d) (hd : aggD d = true) (hi : (Try.prog.info? T).map (·.size) = some cs.length) (h : wpList Try.prog ops Q rest (a.put o.dst (.agg cs.toArray)) w) : wpList Try.prog ops Q (o :: rest) a w :=
  wpList_wantP hw (run_opLoadM ho hx hg hoff hu hd hi) h
def RetUpd (g : Nat) (P : World → Prop) (v : Value) (w : World) (e : Ending) (w' : World) : Prop := e = .returned v ∧ P w' ∧ w.grownBy w' (some g)
theorem opG_build {ops : Array Oper} {Q : Exit → Act → World → Prop} {rest : List Oper} {o : Oper} {a : Act} {w : World} {t : TypeId} {parts : Array (Nat × Operand)} {ps : Array (Nat × Value)} {v : Value} (ho : o.op = .build t parts) (hw : Region.wanted o (yielded ops a.tmps) = true) (hp : parts.map (fun (i, x) => (i, a.eval x)) = ps)
    (hr : ∀ w, (Instr.build t ps).run Try.prog w = .ok v w) (h : wpList Try.prog ops Q rest (a.put o.dst v) w) : wpList Try.prog ops Q (o :: rest) a w := by
  refine wpList_wantP (v := v) (w' := w) hw ?_ h
  unfold execOp
  simp only [ho, hp, Sem.run_bind, Sem.run_pure, Result.andThen_ok, hr]
theorem run_buildSg (b h : Int) (seed : ByteArray) (key : IdK) (hk : key.length = 32) (next : Int) (w : World) :
    (Instr.build 215 #[(0, .agg #[.int .i64 b, .int .i64 h]), (1, .string seed), (2, idV key), (3, .int .i64 next)]).run Try.prog w = .ok (.agg (sgC b h seed key next).toArray) w := by
  match key, hk with
  | [x0, x1, x2, x3, x4, x5, x6, x7, x8, x9, x10, x11, x12, x13, x14, x15, x16, x17, x18, x19, x20, x21, x22, x23, x24, x25, x26, x27, x28, x29, x30, x31], _ => exact run_build w 215 _ _ (by kernel_rfl)
def RetSg (B : Nat) (b h : Int) (seed : ByteArray) (key : IdK) (next : Int) (w : World) (e : Ending) (w' : World) : Prop := ∃ g, e = .returned (.tuple #[.pointer (some ⟨g, 0, none⟩), .int .i64 0]) ∧ B ≤ g ∧ IsSg w' g b h seed key next ∧ Below w.heap.size w w'
theorem sgNew_bad (b h : Int) (seed : ByteArray) (next : Int) (hk : ktB b h = false) (w : World) :
    Calls Try.prog 72 #[.agg #[.int .i64 b, .int .i64 h], .string seed, .int .i64 next] w fun e w' => e = .returned (.tuple #[.pointer none, .int .i64 1]) ∧ Below w.heap.size w w' := by
  have HO := hid (fun w => ktOfC_bad seed b h hk w)
  clear hk
  go_enter Try.func72, Try.ntmps72
  have HB := hid (grow_refl w)
  apply wp_seq_k; intro _ _; apply wp_region_lit
  refine op_boxC (cs := #[.int .i64 b, .int .i64 h]) rfl rfl rfl rfl ?_
  intro gp w1 hgl hgu hb hr
  have PL := hid (Nat.le_trans HB.out.size hgl)
  replace HB := hid (Grow.trans HB.out hb)
  have P := hid hr; have PU := hid hgu
  clear hr hgl hgu hb
  try simp only [Act.put, List.setIfInBounds_toArray, List.set_cons_zero, List.set_cons_succ]
  go_wp2_with (first | (refine opG_loadB rfl rfl rfl P.out Try.underlying92 rfl rfl ?_) | (refine opG_load1 rfl rfl rfl P.out rfl Try.underlying3 rfl ?_) |  fail)
  refine (HO.out _).mono ?_
  rintro e w2 ⟨rfl, hb⟩
  replace HB := hid (Grow.trans HB.out hb)
  replace P := hid (grow_block P.out hb)
  clear hb
  go_wp2_with (first | (refine opG_loadB rfl rfl rfl P.out Try.underlying92 rfl rfl ?_) | (refine opG_load1 rfl rfl rfl P.out rfl Try.underlying3 rfl ?_) |  (refine op_allocstore (l := zero8 32) rfl rfl rfl rfl rfl rfl (fun _ => rfl) ⟨fun _ => rfl, rfl⟩ ?_))
  intro g8 w3 hgl hgu hb hr
  have H8L := hid (Nat.le_trans HB.out.size hgl)
  replace HB := hid (Grow.trans HB.out hb)
  replace P := hid (grow_block P.out hb)
  have H8 := hid hr; have H8U := hid hgu
  clear hr hgl hgu hb
  try simp only [Act.put, List.setIfInBounds_toArray, List.set_cons_zero, List.set_cons_succ]
  go_wp2_with (first | (refine opG_loadB rfl rfl rfl P.out Try.underlying92 rfl rfl ?_) | (refine opG_load1 rfl rfl rfl P.out rfl Try.underlying3 rfl ?_) |  fail)
  go_ret2
  exact ⟨rfl, HB.out⟩
theorem sgNew_out (b h : Nat) (seed : ByteArray) (hs : seed.size ≤ 1000000) (next : Int) (n : Nat) (hk : ktB b h = true) (hn : n = 2 ^ h) (hx : next < 0 ∨ (n : Int) < next) (w : World) :
    Calls Try.prog 72 #[.agg #[.int .i64 (b : Int), .int .i64 (h : Int)], .string seed, .int .i64 next] w fun e w' => e = .returned (.tuple #[.pointer none, .int .i64 5]) ∧ Below w.heap.size w w' := by
  have HO := hid (fun w => ktOfC seed hs b h hk w)
  have HLV := hid (fun w => ktLeaves b h n (by rw [hk, hn]; simp) w)
  have LK := hid (ktOf_length seed b h)
  generalize ktOf seed b h = key at *
  clear hk hn
  by_cases h1 : next < 0
  · have t1 : decide (next < 0) = true := by simpa using h1
    clear hx
    go_enter Try.func72, Try.ntmps72
    have HB := hid (grow_refl w)
    apply wp_seq_k; intro _ _; apply wp_region_lit
    refine op_boxC (cs := #[.int .i64 (b : Int), .int .i64 (h : Int)]) rfl rfl rfl rfl ?_
    intro gp w1 hgl hgu hb hr
    have PL := hid (Nat.le_trans HB.out.size hgl)
    replace HB := hid (Grow.trans HB.out hb)
    have P := hid hr; have PU := hid hgu
    clear hr hgl hgu hb
    try simp only [Act.put, List.setIfInBounds_toArray, List.set_cons_zero, List.set_cons_succ]
    go_wp2_with (first | (refine opG_loadB rfl rfl rfl P.out Try.underlying92 rfl rfl ?_) | (refine opG_load1 rfl rfl rfl P.out rfl Try.underlying3 rfl ?_) |  fail)
    refine (HO.out _).mono ?_
    rintro e w2 ⟨rfl, hb⟩
    replace HB := hid (Grow.trans HB.out hb)
    replace P := hid (grow_block P.out hb)
    clear hb
    go_wp2_with (first | (refine opG_loadB rfl rfl rfl P.out Try.underlying92 rfl rfl ?_) | (refine opG_load1 rfl rfl rfl P.out rfl Try.underlying3 rfl ?_) |  (refine op_allocstore (l := key) rfl rfl rfl rfl rfl rfl (fun _ => rfl) ⟨fun _ => rfl, LK.out⟩ ?_))
    intro g8 w3 hgl hgu hb hr
    have H8L := hid (Nat.le_trans HB.out.size hgl)
    replace HB := hid (Grow.trans HB.out hb)
    replace P := hid (grow_block P.out hb)
    have H8 := hid hr; have H8U := hid hgu
    clear hr hgl hgu hb
    try simp only [Act.put, List.setIfInBounds_toArray, List.set_cons_zero, List.set_cons_succ]
    go_wp2_with (first | (refine opG_loadB rfl rfl rfl P.out Try.underlying92 rfl rfl ?_) | (refine opG_load1 rfl rfl rfl P.out rfl Try.underlying3 rfl ?_) |  fail)
    go_ret2
    exact ⟨rfl, HB.out⟩
  · have t1 : decide (next < 0) = false := by simpa using h1
    have t2 : decide ((n : Int) < next) = true := by simp; omega
    clear hx
    go_enter Try.func72, Try.ntmps72
    have HB := hid (grow_refl w)
    apply wp_seq_k; intro _ _; apply wp_region_lit
    refine op_boxC (cs := #[.int .i64 (b : Int), .int .i64 (h : Int)]) rfl rfl rfl rfl ?_
    intro gp w4 hgl hgu hb hr
    have PL := hid (Nat.le_trans HB.out.size hgl)
    replace HB := hid (Grow.trans HB.out hb)
    have P := hid hr; have PU := hid hgu
    clear hr hgl hgu hb
    try simp only [Act.put, List.setIfInBounds_toArray, List.set_cons_zero, List.set_cons_succ]
    go_wp2_with (first | (refine opG_loadB rfl rfl rfl P.out Try.underlying92 rfl rfl ?_) | (refine opG_load1 rfl rfl rfl P.out rfl Try.underlying3 rfl ?_) | (refine opG_loadB rfl rfl rfl P.out Try.underlying92 rfl rfl ?_) | (refine opG_load1 rfl rfl rfl P.out rfl Try.underlying3 rfl ?_) |  fail)
    refine (HO.out _).mono ?_
    rintro e w5 ⟨rfl, hb⟩
    replace HB := hid (Grow.trans HB.out hb)
    replace P := hid (grow_block P.out hb)
    clear hb
    go_wp2_with (first | (refine opG_loadB rfl rfl rfl P.out Try.underlying92 rfl rfl ?_) | (refine opG_load1 rfl rfl rfl P.out rfl Try.underlying3 rfl ?_) | (refine opG_loadB rfl rfl rfl P.out Try.underlying92 rfl rfl ?_) | (refine opG_load1 rfl rfl rfl P.out rfl Try.underlying3 rfl ?_) |  (refine op_allocstore (l := key) rfl rfl rfl rfl rfl rfl (fun _ => rfl) ⟨fun _ => rfl, LK.out⟩ ?_))
    intro g8 w6 hgl hgu hb hr
    have H8L := hid (Nat.le_trans HB.out.size hgl)
    replace HB := hid (Grow.trans HB.out hb)
    replace P := hid (grow_block P.out hb)
    have H8 := hid hr; have H8U := hid hgu
    clear hr hgl hgu hb
    try simp only [Act.put, List.setIfInBounds_toArray, List.set_cons_zero, List.set_cons_succ]
    go_wp2_with (first | (refine opG_loadB rfl rfl rfl P.out Try.underlying92 rfl rfl ?_) | (refine opG_load1 rfl rfl rfl P.out rfl Try.underlying3 rfl ?_) | (refine opG_loadB rfl rfl rfl P.out Try.underlying92 rfl rfl ?_) | (refine opG_load1 rfl rfl rfl P.out rfl Try.underlying3 rfl ?_) |  fail)
    refine (HLV.out _).mono ?_
    rintro e w7 ⟨rfl, hb⟩
    replace HB := hid (Grow.trans HB.out hb)
    replace P := hid (grow_block P.out hb)
    replace H8 := hid (grow_block H8.out hb)
    clear hb
    go_wp2_with (first | (refine opG_loadB rfl rfl rfl P.out Try.underlying92 rfl rfl ?_) | (refine opG_load1 rfl rfl rfl P.out rfl Try.underlying3 rfl ?_) | (refine opG_loadB rfl rfl rfl P.out Try.underlying92 rfl rfl ?_) | (refine opG_load1 rfl rfl rfl P.out rfl Try.underlying3 rfl ?_) |  fail)
    go_ret2
    exact ⟨rfl, HB.out⟩
theorem sgNew (b h : Nat) (seed : ByteArray) (hs : seed.size ≤ 1000000) (next : Int) (n : Nat) (hk : ktB b h = true) (hn : n = 2 ^ h) (hx : 0 ≤ next ∧ next ≤ (n : Int)) (w : World) :
    Calls Try.prog 72 #[.agg #[.int .i64 (b : Int), .int .i64 (h : Int)], .string seed, .int .i64 next] w (RetSg w.heap.size b h seed (ktOf seed b h) next w) := by
  have HO := hid (fun w => ktOfC seed hs b h hk w)
  have HLV := hid (fun w => ktLeaves b h n (by rw [hk, hn]; simp) w)
  have LK := hid (ktOf_length seed b h)
  generalize ktOf seed b h = key at *
  have t1 : decide (next < 0) = false := by simp; omega
  have t2 : decide ((n : Int) < next) = false := by simp; omega
  clear hk hn hx
  go_enter Try.func72, Try.ntmps72
  have HB := hid (grow_refl w)
  apply wp_seq_k; intro _ _; apply wp_region_lit
  refine op_boxC (cs := #[.int .i64 (b : Int), .int .i64 (h : Int)]) rfl rfl rfl rfl ?_
  intro gp w1 hgl hgu hb hr
  have PL := hid (Nat.le_trans HB.out.size hgl)
  replace HB := hid (Grow.trans HB.out hb)
  have P := hid hr; have PU := hid hgu
  clear hr hgl hgu hb
  try simp only [Act.put, List.setIfInBounds_toArray, List.set_cons_zero, List.set_cons_succ]
  go_wp2_with (first | (refine opG_loadB rfl rfl rfl P.out Try.underlying92 rfl rfl ?_) | (refine opG_load1 rfl rfl rfl P.out rfl Try.underlying3 rfl ?_) |  fail)
  refine (HO.out _).mono ?_
  rintro e w2 ⟨rfl, hb⟩
  replace HB := hid (Grow.trans HB.out hb)
  replace P := hid (grow_block P.out hb)
  clear hb
  go_wp2_with (first | (refine opG_loadB rfl rfl rfl P.out Try.underlying92 rfl rfl ?_) | (refine opG_load1 rfl rfl rfl P.out rfl Try.underlying3 rfl ?_) |  (refine op_allocstore (l := key) rfl rfl rfl rfl rfl rfl (fun _ => rfl) ⟨fun _ => rfl, LK.out⟩ ?_))
  intro g8 w3 hgl hgu hb hr
  have H8L := hid (Nat.le_trans HB.out.size hgl)
  replace HB := hid (Grow.trans HB.out hb)
  replace P := hid (grow_block P.out hb)
  have H8 := hid hr; have H8U := hid hgu
  clear hr hgl hgu hb
  try simp only [Act.put, List.setIfInBounds_toArray, List.set_cons_zero, List.set_cons_succ]
  go_wp2_with (first | (refine opG_loadB rfl rfl rfl P.out Try.underlying92 rfl rfl ?_) | (refine opG_load1 rfl rfl rfl P.out rfl Try.underlying3 rfl ?_) | (refine op_loadId rfl rfl rfl H8.out (LK.out) ?_) |  fail)
  refine (HLV.out _).mono ?_
  rintro e w4 ⟨rfl, hb⟩
  replace HB := hid (Grow.trans HB.out hb)
  replace P := hid (grow_block P.out hb)
  replace H8 := hid (grow_block H8.out hb)
  clear hb
  have HBS := hid (fun w => run_buildSg b h seed key LK.out next w)
  go_wp2_with (first | (refine opG_build (ps := #[(0, .agg #[.int .i64 (b : Int), .int .i64 (h : Int)]), (1, .string seed), (2, idV key), (3, .int .i64 next)]) rfl rfl (by simp only [List.map_toArray, List.map_cons, List.map_nil]; rfl) HBS.out ?_) | (refine op_boxC (cs := (sgC b h seed key next).toArray) rfl rfl rfl rfl ?_) | (refine opG_loadB rfl rfl rfl P.out Try.underlying92 rfl rfl ?_) | (refine opG_load1 rfl rfl rfl P.out rfl Try.underlying3 rfl ?_) | (refine op_loadId rfl rfl rfl H8.out (LK.out) ?_) |  fail)
  intro gs wz hgl hgu hb hz
  have HZ := hid hz
  have HBZ := hid (Grow.trans HB.out hb)
  have HGL := hid (Nat.le_trans HB.out.size hgl)
  clear hgl hgu hb hz HBS
  go_wp2_with fail
  go_ret2
  exact ⟨gs, rfl, HGL.out, HZ.out, HBZ.out⟩
end Go.Proofs.Ytabkaflccaklhaa
