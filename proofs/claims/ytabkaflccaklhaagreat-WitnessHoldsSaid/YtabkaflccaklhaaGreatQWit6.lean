/- witness.texts: contract. -/
import Derived.Test.YtabkaflccaklhaaGreatQWitQ
import Derived.Test.YtabkaflccaklhaaGreatQDis1
set_option linter.unusedSimpArgs false
set_option linter.unusedVariables false
namespace Go.Proofs.YtabkaflccaklhaaGreat
open Go.RowKit
open Go.Qk hiding rotr b4
set_option maxHeartbeats 2000000
set_option maxRecDepth 100000
theorem andNotF : ∀ m : Fin 1024, bits .andNot .i64 ((m.val : Nat) : Int) 1 = ((2 * (m.val / 2) : Nat) : Int) := by decide +kernel
theorem andNot_one (m : Nat) (h : m < 1024) : bits .andNot .i64 (m : Int) 1 = ((2 * (m / 2) : Nat) : Int) := andNotF ⟨m, h⟩
theorem run_idsSub {ad : Addr} {n c k : Nat} (hk : k < n) (hc : n ≤ c) (w : World) : (Instr.sliceAt 56 (.slice (some ad) n c) (some (.int .i64 (k : Int))) (some (.int .i64 ((k : Int) + 1))) none).run Tryz.prog w = .ok (.slice (some (ad.add (k * 32))) 1 (c - k)) w := by
  have h1 : (k : Int) ≤ (k : Int) + 1 := by omega
  have h2 : (0 : Int) ≤ (k : Int) := by omega
  have h3 : (k : Int) + 1 ≤ (c : Int) := by omega
  have h4 : ¬ c = k := by omega
  have h5 : ((k : Int) + 1).toNat - k = 1 := by omega
  have h6 : (0 : Int) ≤ (k : Int) + 1 := by omega
  go_simp
theorem climb_one (m : Nat) (cur side : IdK) : climbTo (m % 2) cur [side] = if m % 2 = 1 then nd side cur else nd cur side := by
  have h : m % 2 = 0 ∨ m % 2 = 1 := by omega
  rcases h with h | h <;> rw [h] <;> rfl
theorem curW_step (leaf : Nat) (s0 : IdK) (way : List IdK) (k : Nat) (hk : k < way.length) : climbTo (leaf / 2 ^ k % 2) (curW leaf s0 way k) [way.getD k []] = curW leaf s0 way (k + 1) := by
  rw [climb_one, curW_succ leaf s0 way k hk]
  unfold sideA sideB
  split <;> rfl
theorem run_opLoadId {o : Oper} {a : Act} {w : World} {x : Operand} {g : Nat} {l : List UInt8} {t : TypeId} {fr : Nat × Nat} (ho : o.op = .load 42 x) (hx : a.eval x = .pointer (some ⟨g, 0, none⟩)) (hg : w.heap[g]? = some (.cells (u8s l).toArray t fr)) (hl : l.length = 32) : (execOp a.eval o).run Tryz.prog w = .ok (.value (idV l)) w :=
  run_opLoadAt ho hx (cells_block (tl := []) (by rw [List.append_nil]; exact hg)) hl
section
variable {ops : Array Oper} {Q : Exit → Act → World → Prop} {rest : List Oper} {o oa o2 : Oper} {a : Act} {w : World}
/-- An id's cell is made, something else is assigned, and the id is stored. -/
theorem op_allocAstore {d : Tmp} {x y : Operand} {v : Value} {l : List UInt8} (hgd : o.guard = none) (ho : o.op = .alloc 42) (hd : o.dst = some d) (hga : oa.guard = none) (hoa : oa.op = .assign x) (hgd2 : o2.guard = none) (hdst2 : o2.dst = none) (ho2 : o2.op = .store 42 (.tmp d) y)
    (hv : ∀ g, (a.put o.dst (.pointer (some ⟨g, 0, none⟩))).eval x = v) (hx : ∀ g, ((a.put o.dst (.pointer (some ⟨g, 0, none⟩))).put oa.dst v).eval (.tmp d) = .pointer (some ⟨g, 0, none⟩)) (hy : ∀ g, ((a.put o.dst (.pointer (some ⟨g, 0, none⟩))).put oa.dst v).eval y = idV l) (hl : l.length = 32)
    (h : ∀ g W, w.heap.size ≤ g → g < W.heap.size → Grow w W → W.heap[g]? = some (.cells (u8s l).toArray 42 (0, 0)) → wpList Tryz.prog ops Q rest ((a.put o.dst (.pointer (some ⟨g, 0, none⟩))).put oa.dst v) W) :
    wpList Tryz.prog ops Q (o :: oa :: o2 :: rest) a w := by
  refine op_alloc hgd ho fun g W h1 h2 h3 h4 => ?_
  refine wpList_val (v := v) (w' := W) hga ?_ ?_
  · unfold execOp
    simp only [hoa, hv g, Sem.run_bind, Sem.run_pure, Result.andThen_ok]
  · refine op_storeId (l := l) hgd2 hdst2 ho2 (hx g) (hy g) h4 (by rfl) hl fun W' h5 h6 h7 => ?_
    exact h g W' h1 (Nat.lt_of_lt_of_le h2 h6.size) (h7 _ _ h3 h1) h5
end
/-- A row of the call's own, made in a drawn region. -/
def ownRowAt (B : Nat) (e : TypeId) (sz n : Nat) (cs : List Value) (v : Value) (w : World) : Prop := w.ownsRow B e sz v n cs ∧ ∃ g, v = .slice (some ⟨g, 0, none⟩) n n
section
variable {ops : Array Oper} {W : World} {Qe : (Tmp → World → Prop) → Act → Prop}
theorem head_ownRow {o : Oper} {r : List (Oper × (Value → World → Prop))} {E : Tmp → World → Prop} {a : Act} (cs : List Value) (sz n : Nat) (e : TypeId) (hwant : Region.wanted o (yielded ops a.tmps) = true)
    (hrun : ∀ w, (execOp a.eval o).run Tryz.prog w = .ok (.value (.slice (some ⟨w.heap.size, 0, none⟩) n n)) (w.alloc (.cells cs.toArray e))) (hl : cs.length = n * sz) (hn : n ≤ maxLen)
    (h : ∀ g, Head Tryz.prog ops W Qe r (upE E o.dst (ownRowAt W.heap.size e sz n cs (.slice (some ⟨g, 0, none⟩) n n))) (a.put o.dst (.slice (some ⟨g, 0, none⟩) n n))) : Head Tryz.prog ops W Qe ((o, ownRowAt W.heap.size e sz n cs) :: r) E a := by
  refine head_abs (V := ownRowAt W.heap.size e sz n cs) hwant ?_ ?_ ?_
  · rintro v w1 w2 ⟨h1, h2⟩ hg
    exact ⟨own_grow h1 hg, h2⟩
  · intro w1 hw1 _
    refine does_val (hrun w1) ⟨grow_alloc _ _, ⟨hl, .inr ⟨w1.heap.size, n, _, rfl, hw1.size, heap_alloc_new _ _, Nat.le_refl _, hn, by simpa using hl, ?_⟩⟩, _, rfl⟩
    rw [List.take_of_length_le (by simp [hl])]
  · rintro v ⟨_, _, g, rfl⟩
    exact h g
theorem ownRow_at {E : Tmp → World → Prop} {t : Tmp} {B : Nat} {e : TypeId} {sz n : Nat} {cs : List Value} {v : Value} {w : World} (h : upE E (some t) (ownRowAt B e sz n cs v) t w) : w.ownsRow B e sz v n cs := by
  unfold upE at h
  rw [if_pos rfl] at h
  exact h.1
end
theorem run_opSlice {P : Program} {o : Oper} {a : Act} {w : World} {T : TypeId} {x y z : Operand} {u v1 v2 r : Value} (ho : o.op = .slice T x (some y) (some z) none) (hx : a.eval x = u) (hy : a.eval y = v1) (hz : a.eval z = v2) (hr : (Instr.sliceAt T u (some v1) (some v2) none).run P w = .ok r w) :
    (execOp a.eval o).run P w = .ok (.value r) w := by
  unfold execOp
  simp only [ho, hx, hy, hz, Option.map_some, Option.map_none, Sem.run_bind, Sem.run_pure, Result.andThen_ok, hr]
theorem own_cellsA {w : World} {B : Nat} {e : TypeId} {sz n c : Nat} {A : Option Addr} {xs : List Value} (h : w.ownsRow B e sz (.slice A n c) n xs) : SlCells w A xs := by
  obtain ⟨A', c', e, h'⟩ := own_sl h
  cases e
  exact h'
theorem own_noneA {w : World} {B : Nat} {e : TypeId} {sz n c : Nat} {A : Option Addr} {xs : List Value} (h : w.ownsRow B e sz (.slice A n c) n xs) (hA : A = none) : c = 0 := by
  rcases h.2 with ⟨e1, _⟩ | ⟨g, cap, cur, e1, _⟩
  · injection e1
  · injection e1 with e1 _ _
    rw [hA] at e1
    cases e1
theorem idRow_single {w : World} {ad : Addr} {s : IdK} (h : ∀ j v, (u8s s)[j]? = some v → w.cell? (ad.add j) = some v) : IdRow w (some ad) [s] := by
  refine ⟨by simp, fun _ => ⟨ad, rfl, fun i hi j v hv => ?_⟩⟩
  obtain rfl : i = 0 := by simpa using hi
  rw [addr_add_add, Nat.zero_mul, Nat.zero_add]
  exact h j v hv
theorem own_root_cells {w : World} {g : Nat} {v : Value} {root : IdK} {T : TypeId} {fr : Nat × Nat} (hg : w.heap[g]? = some (.cells (ownC v root).toArray T fr)) (j : Nat) (u : Value) (hu : (u8s root)[j]? = some u) : w.cell? ((⟨g, 1, none⟩ : Addr).add j) = some u := by
  have e : (⟨g, 1, none⟩ : Addr).add j = ⟨g, 1 + j, none⟩ := by unfold Addr.add; split <;> simp_all
  rw [e]
  refine blk_cell hg ?_
  rw [List.getElem?_toArray, Nat.add_comm]
  exact hu
theorem wTexts (seed : ByteArray) (hs : seed.size ≤ 1000000) (b h : Nat) (hk : ktB b h = true) (hh2 : h ≤ 2) (sum : IdK) (hsum : sum.length = 32) (leaf : Nat) (hlf : leaf < 2 ^ h) (A B C : Option Addr) (n m k c d e : Nat) (shown hidden way : List IdK) (w : World) (hA : IdRow w A shown) (hB : IdRow w B hidden) (hC : IdRow w C way)
    (hn : shown.length = n) (hm : hidden.length = m) (hkk : way.length = k) (h1 : ∀ s ∈ shown, s.length = 32) (h2 : ∀ s ∈ hidden, s.length = 32) (h3 : ∀ s ∈ way, s.length = 32) (hnb : n = b) (hmb : m = b) (hkh : k = h) (hke : k ≤ e) :
    Calls Tryz.prog 63 #[.agg #[.int .i64 (b : Int), .int .i64 (h : Int)], .string seed, idV sum, .agg #[.int .i64 (leaf : Int), .slice A n c, .slice B m d, .slice C k e]] w fun r w' => ∃ v, r = .returned v ∧ OwnTx w.heap.size w' v (textsW seed b h leaf (recRes sum shown hidden) way (pubRes sum shown hidden)) ∧ Below w.heap.size w w' := by
  subst hkh
  obtain ⟨b1, b2, b3, b4⟩ := kt_bounds hk
  have hpw : 2 ^ k ≤ 2 ^ 2 := Nat.pow_le_pow_right (by omega) hh2
  have hlf4 : leaf < 4 := by omega
  have HGR := hid (fun w => wGrow seed hs b k hk w)
  have HPB := hid (fun w hA hB => lamPublics sum hsum shown hidden h1 h2 A B n m c d hn hm w hA hB)
  have HRC := hid (fun w hA hB => lamRecover sum hsum shown hidden h1 h2 A B n m c d hn hm w hA hB)
  have L0 := hid (recRes_length sum shown hidden)
  have hb256 : b ≤ 256 := by omega
  have HPN := hid (show (pubRes sum shown hidden).length ≤ 1000000 by unfold pubRes pubRow; split; (rw [bothRow_length]; omega); simp)
  have HRN := hid (fun l s (h1 : l ≤ k) (h2 : s < 2 ^ (k - l)) => rows_node seed b k l s h1 h2)
  have HRL := hid (fun l (h1 : l ≤ k) => upN_length l (k - l) (leafRow seed b (2 ^ k)) (by rw [leafRow_length, show k - l + l = k by omega]))
  have HFG := hid (fun l (h1 : l ≤ k) => foldRows_get k (leafRow seed b (2 ^ k)) l h1)
  have HFL := hid (foldRows_length k (leafRow seed b (2 ^ k)))
  have RA := hid hA
  have RB := hid hB
  have RC := hid hC
  have HS := hid hsum
  have HS2 := hid hs
  have H3 := hid h3
  have HKK := hid hkk
  have HKE := hid hke
  have HLF := hid hlf
  have HKT := hid hk
  generalize foldRows k (leafRow seed b (2 ^ k)) = fr at *
  have LN := hid (nodeOf_length seed b k 0)
  generalize hroot : nodeOf seed b k 0 = root at *
  generalize hps : pubRes sum shown hidden = ps at *
  generalize pubErr shown hidden = pe at *
  generalize hs0 : recRes sum shown hidden = s0 at *
  have HROOT := hid hroot
  clear hk b1 b2 b3 b4 hpw hlf hsum hs hn hm hkk h1 h2 h3 hnb hmb hke hA hB hC hroot hps hs0
  go_enter Tryz.func63, Tryz.ntmps63
  have HB := hid (grow_refl w)
  apply wp_seq_k; intro _ _; apply wp_region_lit
  refine op_boxC (cs := #[.int .i64 (b : Int), .int .i64 (k : Int)]) rfl rfl rfl rfl ?_
  intro gp w1 hgl hgu hb hr
  have PL := hid (Nat.le_trans HB.out.size hgl)
  replace HB := hid (Grow.trans HB.out hb)
  replace RA := hid (RA.out.grow hb)
  replace RB := hid (RB.out.grow hb)
  replace RC := hid (RC.out.grow hb)
  have P := hid hr; have PU := hid hgu
  clear hr hgl hgu hb
  try simp only [Act.put, List.setIfInBounds_toArray, List.set_cons_zero, List.set_cons_succ]
  refine op_box (l := sum) rfl rfl rfl ?_
  intro gs w2 hgl hgu hb hr
  have XL := hid (Nat.le_trans HB.out.size hgl)
  replace HB := hid (Grow.trans HB.out hb)
  replace RA := hid (RA.out.grow hb)
  replace RB := hid (RB.out.grow hb)
  replace RC := hid (RC.out.grow hb)
  replace P := hid (grow_block P.out hb)
  have X := hid hr; have XU := hid hgu
  clear hr hgl hgu hb
  try simp only [Act.put, List.setIfInBounds_toArray, List.set_cons_zero, List.set_cons_succ]
  refine op_boxC (cs := #[.int .i64 (leaf : Int), .slice A n c, .slice B m d, .slice C k e]) rfl rfl rfl rfl ?_
  intro gx w3 hgl hgu hb hr
  have GL := hid (Nat.le_trans HB.out.size hgl)
  replace HB := hid (Grow.trans HB.out hb)
  replace RA := hid (RA.out.grow hb)
  replace RB := hid (RB.out.grow hb)
  replace RC := hid (RC.out.grow hb)
  replace P := hid (grow_block P.out hb)
  replace X := hid (grow_block X.out hb)
  have G := hid hr; have GU := hid hgu
  clear hr hgl hgu hb
  try simp only [Act.put, List.setIfInBounds_toArray, List.set_cons_zero, List.set_cons_succ]
  go_wp2_with (first | (refine opG_loadB rfl rfl rfl P.out Tryz.underlying54 rfl rfl ?_) | (refine opG_load1 rfl rfl rfl P.out rfl Tryz.underlying3 rfl ?_) | (refine opG_loadB rfl rfl rfl G.out Tryz.underlying58 rfl rfl ?_) | (refine opG_load1 rfl rfl rfl G.out rfl Tryz.underlying3 rfl ?_) | (refine opG_load1 rfl rfl rfl G.out rfl Tryz.underlying56 rfl ?_) | (refine op_loadId rfl rfl rfl X.out (HS.out) ?_) |  fail)
  refine (HGR.out _).mono ?_
  rintro _ wa ⟨vr, rfl, ho, hb⟩
  replace HB := hid (Grow.trans HB.out hb)
  replace RA := hid (RA.out.grow hb)
  replace RB := hid (RB.out.grow hb)
  replace RC := hid (RC.out.grow hb)
  replace P := hid (grow_block P.out hb)
  replace X := hid (grow_block X.out hb)
  replace G := hid (grow_block G.out hb)
  clear hb
  obtain ⟨Ar, cr, rfl, hrs, hcap⟩ := ho.sl
  have RS := hid hrs
  clear ho hrs
  go_wp2_with (first | (refine op_allocstoreB (z := ownC (.slice none 0 0) (zero8 32)) (cs := ownC (.slice Ar fr.length cr) root) rfl rfl rfl rfl rfl rfl (fun _ => by kernel_rfl) (fun _ => rfl) (fun _ => rfl) (by rw [ownC_length LN.out, ownC_length (zero8_length 32)]) (by rw [infoOwn, ownC_length LN.out]) (ownC_one _ _ _ _) ?_) | fail)
  intro g9 wb hgl hgu hb hr
  replace HB := hid (Grow.trans HB.out hb)
  replace RA := hid (RA.out.grow hb)
  replace RB := hid (RB.out.grow hb)
  replace RC := hid (RC.out.grow hb)
  replace P := hid (grow_block P.out hb)
  replace X := hid (grow_block X.out hb)
  replace G := hid (grow_block G.out hb)
  replace RS := hid (RS.out.grow hb)
  clear hb
  have H9 := hid hr
  clear hgl hgu hr
  go_wp2_with (first | (refine opG_loadB rfl rfl rfl P.out Tryz.underlying54 rfl rfl ?_) | (refine opG_load1 rfl rfl rfl P.out rfl Tryz.underlying3 rfl ?_) | (refine opG_loadB rfl rfl rfl G.out Tryz.underlying58 rfl rfl ?_) | (refine opG_load1 rfl rfl rfl G.out rfl Tryz.underlying3 rfl ?_) | (refine opG_load1 rfl rfl rfl G.out rfl Tryz.underlying56 rfl ?_) | (refine op_loadId rfl rfl rfl X.out (HS.out) ?_) |  fail)
  refine (HPB.out _ RA.out RB.out).mono ?_
  rintro _ wc ⟨v, rfl, ho, hb⟩
  replace HB := hid (Grow.trans HB.out hb)
  replace RA := hid (RA.out.grow hb)
  replace RB := hid (RB.out.grow hb)
  replace RC := hid (RC.out.grow hb)
  replace P := hid (grow_block P.out hb)
  replace X := hid (grow_block X.out hb)
  replace G := hid (grow_block G.out hb)
  replace RS := hid (RS.out.grow hb)
  replace H9 := hid (grow_block H9.out hb)
  clear hb
  obtain ⟨⟨Ap, cp, rfl, hrow⟩, hp32⟩ := ho.sl
  have RP := hid hrow
  have P32 := hid hp32
  clear ho hrow hp32
  go_wp2_with (first | (refine opG_loadB rfl rfl rfl P.out Tryz.underlying54 rfl rfl ?_) | (refine opG_load1 rfl rfl rfl P.out rfl Tryz.underlying3 rfl ?_) | (refine opG_loadB rfl rfl rfl G.out Tryz.underlying58 rfl rfl ?_) | (refine opG_load1 rfl rfl rfl G.out rfl Tryz.underlying3 rfl ?_) | (refine opG_load1 rfl rfl rfl G.out rfl Tryz.underlying56 rfl ?_) | (refine op_loadId rfl rfl rfl X.out (HS.out) ?_) |  fail)
  refine (HRC.out _ RA.out RB.out).mono ?_
  rintro e w4 ⟨rfl, hb⟩
  replace HB := hid (Grow.trans HB.out hb)
  replace RA := hid (RA.out.grow hb)
  replace RB := hid (RB.out.grow hb)
  replace RC := hid (RC.out.grow hb)
  replace P := hid (grow_block P.out hb)
  replace X := hid (grow_block X.out hb)
  replace G := hid (grow_block G.out hb)
  replace RS := hid (RS.out.grow hb)
  replace H9 := hid (grow_block H9.out hb)
  replace RP := hid (RP.out.grow hb)
  clear hb
  go_wp2_with (first | (refine opG_loadB rfl rfl rfl P.out Tryz.underlying54 rfl rfl ?_) | (refine opG_load1 rfl rfl rfl P.out rfl Tryz.underlying3 rfl ?_) | (refine opG_loadB rfl rfl rfl G.out Tryz.underlying58 rfl rfl ?_) | (refine opG_load1 rfl rfl rfl G.out rfl Tryz.underlying3 rfl ?_) | (refine opG_load1 rfl rfl rfl G.out rfl Tryz.underlying56 rfl ?_) | (refine op_loadId rfl rfl rfl X.out (HS.out) ?_) |  (refine op_allocstore (l := s0) rfl rfl rfl rfl rfl rfl (fun _ => rfl) ⟨fun _ => rfl, L0.out⟩ ?_))
  intro g12 w5 hgl hgu hb hr
  have H12L := hid (Nat.le_trans HB.out.size hgl)
  replace HB := hid (Grow.trans HB.out hb)
  replace RA := hid (RA.out.grow hb)
  replace RB := hid (RB.out.grow hb)
  replace RC := hid (RC.out.grow hb)
  replace P := hid (grow_block P.out hb)
  replace X := hid (grow_block X.out hb)
  replace G := hid (grow_block G.out hb)
  replace RS := hid (RS.out.grow hb)
  replace H9 := hid (grow_block H9.out hb)
  replace RP := hid (RP.out.grow hb)
  have H12 := hid hr; have H12U := hid hgu
  clear hr hgl hgu hb
  try simp only [Act.put, List.setIfInBounds_toArray, List.set_cons_zero, List.set_cons_succ]
  have P0 := P
  have G0 := G
  have H90 := H9
  have RS0 := RS
  have RP0 := RP
  have RC0 := RC
  have HB0 := HB
  have HG := hid (grow_refl w5)
  go_wp2_with (first | (refine opG_loadB rfl rfl rfl P.out Tryz.underlying54 rfl rfl ?_) | (refine opG_load1 rfl rfl rfl P.out rfl Tryz.underlying3 rfl ?_) | (refine opG_loadB rfl rfl rfl G.out Tryz.underlying58 rfl rfl ?_) | (refine opG_load1 rfl rfl rfl G.out rfl Tryz.underlying3 rfl ?_) | (refine opG_load1 rfl rfl rfl G.out rfl Tryz.underlying56 rfl ?_) | (refine op_loadId rfl rfl rfl X.out (HS.out) ?_) | (refine op_loadId rfl rfl rfl H12.out (L0.out) ?_) |  (refine op_allocstore (l := s0) rfl rfl rfl rfl rfl rfl (fun _ => rfl) ⟨fun _ => rfl, L0.out⟩ ?_))
  intro g14 w6 hgl hgu hb hr
  have H14G := hid hgl
  have H14L := hid (Nat.le_trans HB.out.size hgl)
  replace HB := hid (Grow.trans HB.out hb)
  replace RA := hid (RA.out.grow hb)
  replace RB := hid (RB.out.grow hb)
  replace RC := hid (RC.out.grow hb)
  replace P := hid (grow_block P.out hb)
  replace X := hid (grow_block X.out hb)
  replace G := hid (grow_block G.out hb)
  replace RS := hid (RS.out.grow hb)
  replace H9 := hid (grow_block H9.out hb)
  replace RP := hid (RP.out.grow hb)
  replace H12 := hid (grow_block H12.out hb)
  replace HG := hid (Grow.trans HG.out hb)
  have H14 := hid hr; have H14U := hid hgu
  clear hr hgl hgu hb
  try simp only [Act.put, List.setIfInBounds_toArray, List.set_cons_zero, List.set_cons_succ]
  go_wp2_with (first | (refine opG_loadB rfl rfl rfl P.out Tryz.underlying54 rfl rfl ?_) | (refine opG_load1 rfl rfl rfl P.out rfl Tryz.underlying3 rfl ?_) | (refine opG_loadB rfl rfl rfl G.out Tryz.underlying58 rfl rfl ?_) | (refine opG_load1 rfl rfl rfl G.out rfl Tryz.underlying3 rfl ?_) | (refine opG_load1 rfl rfl rfl G.out rfl Tryz.underlying56 rfl ?_) | (refine op_loadId rfl rfl rfl X.out (HS.out) ?_) | (refine op_loadId rfl rfl rfl H12.out (L0.out) ?_) |  fail)
  have HO := hid (show w6.ownsRow w5.heap.size 112 2 (.slice none 0 0) 0 (txCells ((List.range 0).map (nodeP seed b leaf s0 way))) from World.ownsRow_nil _ _ _ _)
  have HCW := hid (show curW leaf s0 way 0 = s0 from rfl)
  have HLC := hid (fun l => curW_length leaf s0 way l L0.out)
  rw [← HCW.out] at H14
  go_loopg [15, 48] (k + 1) (fun z v i wr => ∃ l : Nat, l ≤ k ∧ z = k + 1 - l ∧ i = .int .i64 (l : Int) ∧ Hid (wr.ownsRow w5.heap.size 112 2 v l (txCells ((List.range l).map (nodeP seed b leaf s0 way)))) ∧ Hid (wr.heap[g14]? = some (.cells (u8s (curW leaf s0 way l)).toArray 42 (0, 0))) ∧ Hid (Grow w5 wr))
  case atStart => exact ⟨0, by omega, rfl, rfl, HO, H14, HG⟩
  case round =>
    clear HO HG H14 RS RP P X G H9 H12 RA RB RC HB H12U H14U
    obtain ⟨l, hl, hz, rfl, HO, H14, HG⟩ := hrel
    by_cases hlt : l < k
    · have l0 : (0 : Int) ≤ (l : Int) := by omega
      have l1 : (l : Int) < (k : Int) := by omega
      have lf : (l : Int) < (fr.length : Int) := by rw [HFL.out]; omega
      obtain ⟨adw, rfl, hcw⟩ := RC0.out.at_ l (by rw [HKK.out]; exact hlt)
      have HWC := hid (fun w' (hw : Grow w5 w') j v hv => grow_cell (hcw j v hv) hw)
      have LW := hid (way_len H3.out (show l < way.length by rw [HKK.out]; exact hlt))
      have LC := hid (HLC.out l)
      have HST := hid (curW_step leaf s0 way l (by rw [HKK.out]; exact hlt))
      have hq4 : leaf / 2 ^ l ≤ leaf := Nat.div_le_self _ _
      have e2 : leaf / 2 ^ (l + 1) = leaf / 2 ^ l / 2 := by rw [Nat.pow_succ, Nat.div_div_eq_div_mul]
      have hpp : 0 < 2 ^ l := Nat.pow_pos (by omega)
      have hp0 : 2 ^ k = 2 ^ (k - l) * 2 ^ l := by rw [← Nat.pow_add]; congr 1; omega
      have hmp : leaf / 2 ^ l < 2 ^ (k - l) := (Nat.div_lt_iff_lt_mul hpp).2 (by rw [← hp0]; exact HLF.out)
      have hev : 2 ^ (k - l) = 2 * 2 ^ (k - (l + 1)) := by rw [show k - l = (k - (l + 1)) + 1 by omega, Nat.pow_succ, Nat.mul_comm]
      have HNP := hid (show nodeP seed b leaf s0 way l = (nodeTx (sideA leaf s0 way l) (sideB leaf s0 way l), nodeTx (nodeOf seed b l (2 * (leaf / 2 ^ l / 2))) (nodeOf seed b l (2 * (leaf / 2 ^ l / 2) + 1))) by unfold nodeP; rw [e2])
      have HAO := hid (fun (h : leaf / 2 ^ l % 2 = 1) => show sideA leaf s0 way l = way.getD l [] ∧ sideB leaf s0 way l = curW leaf s0 way l by unfold sideA sideB; rw [if_pos h, if_pos h]; exact ⟨rfl, rfl⟩)
      have HAE := hid (fun (h : ¬ leaf / 2 ^ l % 2 = 1) => show sideA leaf s0 way l = curW leaf s0 way l ∧ sideB leaf s0 way l = way.getD l [] by unfold sideA sideB; rw [if_neg h, if_neg h]; exact ⟨rfl, rfl⟩)
      have HMS := hid (show (List.range (l + 1)).map (nodeP seed b leaf s0 way) = (List.range l).map (nodeP seed b leaf s0 way) ++ [nodeP seed b leaf s0 way l] by rw [List.range_succ, List.map_append]; rfl)
      have hshr : (leaf : Int) / 2 ^ l = ((leaf / 2 ^ l : Nat) : Int) := by simp
      generalize leaf / 2 ^ l = q at *
      have hq5 : q < 4 := by omega
      obtain ⟨f, hf⟩ : ∃ f, f = 2 * (q / 2) := ⟨_, rfl⟩
      obtain ⟨f1, hf1⟩ : ∃ g, g = f + 1 := ⟨_, rfl⟩
      have hfa : bits .andNot .i64 (q : Int) 1 = (f : Int) := by rw [hf]; exact andNot_one q (by omega)
      have hf2 : f1 < 2 ^ (k - l) := by rw [hf1, hf, hev]; rw [hev] at hmp; omega
      have hfg : (f : Int) + 1 = (f1 : Int) := by omega
      have hf4 : f1 ≤ 4 := by omega
      have hwf : IntKind.i64.wrap (f1 : Int) = (f1 : Int) := IntWalk.i64_in _ (by omega)
      obtain ⟨ad6, rfl, A', c', hcell, hrow⟩ := RS0.out.at_ l (by rw [HFL.out]; omega)
      rw [HFG.out l hl] at hcell hrow
      have hlen := HRL.out l hl
      rw [hlen] at hcell
      obtain ⟨ad7, rfl, hc0⟩ := hrow.at_ f (by rw [hlen]; omega)
      obtain ⟨ad7', e7, hc1⟩ := hrow.at_ f1 (by rw [hlen]; omega)
      cases e7
      rw [HRN.out l f hl (by omega)] at hc0
      rw [HRN.out l f1 hl hf2] at hc1
      rw [← hf, ← hf1] at HNP
      have LX1 := hid (nodeOf_length seed b l f)
      have LX2 := hid (nodeOf_length seed b l f1)
      have HCE := hid (fun w' (hw : Grow w5 w') => grow_cell hcell hw)
      have HX1 := hid (fun w' (hw : Grow w5 w') j v hv => grow_cell (hc0 j v hv) hw)
      have HX2 := hid (fun w' (hw : Grow w5 w') j v hv => grow_cell (hc1 j v hv) hw)
      clear hcw hq4 e2 hpp hp0 hmp hev hcell hrow hlen hc0 hc1
      generalize nodeOf seed b l f = x1 at *
      generalize nodeOf seed b l f1 = x2 at *
      have hfp : (f1 : Int) < ((2 ^ (k - l) : Nat) : Int) := by omega
      generalize 2 ^ (k - l) = p at *
      have f0 : (0 : Int) ≤ (f : Int) := by omega
      have fp : (f : Int) < (p : Int) := by omega
      have f3 : (f : Int) ≤ 4 := by omega
      have q0 : (0 : Int) ≤ (q : Int) := by omega
      have q3 : (q : Int) ≤ 4 := by omega
      have HF1 := hid hf1
      clear hf hf1 hf2 hf4
      have G1 := hid (grow_block G0.out HG.out)
      have H91 := hid (grow_block H90.out HG.out)
      generalize way.getD l [] = side at *
      generalize curW leaf s0 way l = cur at *
      go_wp2_with (first | (refine op_loadAt (l := side) rfl rfl rfl (HWC.out _ HG.out) LW.out ?_) | (refine op_allocAstore (l := side) (v := .int .i64 (l : Int)) rfl rfl rfl rfl rfl rfl rfl rfl (fun _ => rfl) (fun _ => rfl) (fun _ => rfl) LW.out ?_) | fail)
      intro g17 w7 hgl hgu hb hr
      have HN17 := hid (show g14 < g17 from Nat.lt_of_lt_of_le (blk_lt H14.out) hgl)
      replace HG := hid (Grow.trans HG.out hb)
      replace H14 := hid (grow_block H14.out hb)
      replace HO := hid (own_grow HO.out hb)
      replace G1 := hid (grow_block G1.out hb)
      replace H91 := hid (grow_block H91.out hb)
      clear hb
      have H17 := hid hr
      clear hgl hgu hr
      go_wp2_with (first | (refine opG_load1 rfl rfl rfl G1.out rfl Tryz.underlying3 rfl ?_) | (refine opG_load1 rfl rfl rfl G1.out rfl Tryz.underlying56 rfl ?_) |  fail)
      clear hshr
      refine wp_region_pickH (Grow { w7 with drawn := w7.drawn + 1 }) [0, 1] 4 rfl (by kernel_rfl) rfl (by kernel_rfl) (grow_refl _) ?_
      (refine' pickH_val (v := idV cur) ?po1 ?pw1 ?pr1 ?pq1 ?ph1; (case' po1 => exact rfl); (case' pw1 => rfl); (case' pq1 => (exact fun _ _ _ h => h)); (case' pr1 => (intro w' hw'; exact run_opLoadId rfl rfl (grow_block (grow_block H14.out (grow_drawn _)) hw') LC.out)); (case' ph1 => (try simp only [List.getElem_toArray, List.getElem_cons_zero, List.getElem_cons_succ, Act.put, List.setIfInBounds_toArray, List.set_cons_zero, List.set_cons_succ])))
      (refine' pickH_val (v := idV side) ?po2 ?pw2 ?pr2 ?pq2 ?ph2; (case' po2 => exact rfl); (case' pw2 => rfl); (case' pq2 => (exact fun _ _ _ h => h)); (case' pr2 => (intro w' hw'; exact run_opLoadId rfl rfl (grow_block (grow_block H17.out (grow_drawn _)) hw') LW.out)); (case' ph2 => (try simp only [List.getElem_toArray, List.getElem_cons_zero, List.getElem_cons_succ, Act.put, List.setIfInBounds_toArray, List.set_cons_zero, List.set_cons_succ])))
      have hb := grow_drawn w7
      generalize ({ w7 with drawn := w7.drawn + 1 } : World) = w8 at *
      replace HG := hid (Grow.trans HG.out hb)
      replace H14 := hid (grow_block H14.out hb)
      replace HO := hid (own_grow HO.out hb)
      replace G1 := hid (grow_block G1.out hb)
      replace H91 := hid (grow_block H91.out hb)
      replace H17 := hid (grow_block H17.out hb)
      clear hb
      refine pickH_nil ?_
      refine two_any0 (p := 2) (q := 3) (s := 4) (t := 5) (dp := 19) (dq := 20) (Z := idObj (zero8 32)) (BX := idObj cur) (BY := idObj side) (by kernel_rfl) rfl rfl rfl rfl rfl rfl rfl rfl rfl rfl rfl rfl (by decide) (fun _ _ => does_allocId rfl) (fun _ _ => does_allocId rfl) ?s2 ?s3 ?fin
      case s2 => exact fun g _ W h => does_storeId (x := .tmp 19) (y := .tmp 57) rfl (by kernel_rfl) (by kernel_rfl) LC.out rfl h
      case s3 => exact fun _ g W h => does_storeId (x := .tmp 20) (y := .tmp 58) rfl (by kernel_rfl) (by kernel_rfl) LW.out rfl h
      case fin =>
        intro g19 g20 w9 hb b1 b2 b3 b4 hne hX hY
        have HN19 := hid (show g14 < g19 from Nat.lt_of_lt_of_le (blk_lt H14.out) b1)
        have HN20 := hid (show g14 < g20 from Nat.lt_of_lt_of_le (blk_lt H14.out) b2)
        have HN179 := hid (show g17 < g19 from Nat.lt_of_lt_of_le (blk_lt H17.out) b1)
        have HS19 := hid (show w5.heap.size ≤ g19 from Nat.le_trans HG.out.size b1)
        have HS20 := hid (show w5.heap.size ≤ g20 from Nat.le_trans HG.out.size b2)
        replace HG := hid (Grow.trans HG.out hb)
        replace H14 := hid (grow_block H14.out hb)
        replace HO := hid (own_grow HO.out hb)
        replace G1 := hid (grow_block G1.out hb)
        replace H91 := hid (grow_block H91.out hb)
        replace H17 := hid (grow_block H17.out hb)
        clear hb
        have H19 := hid (show w9.heap[g19]? = some (.cells (u8s cur).toArray 42 (0, 0)) from hX)
        have H20 := hid (show w9.heap[g20]? = some (.cells (u8s side).toArray 42 (0, 0)) from hY)
        have HNE := hid hne
        clear b1 b2 b3 b4 hne hX hY
        try simp only [Act.put, List.setIfInBounds_toArray, List.set_cons_zero, List.set_cons_succ]
        simp only [ptrV]
        by_cases ho : q % 2 = 1
        · have HOD := hid ho
          obtain ⟨hA1, hB1⟩ := HAO.out ho
          have tp : ((q : Int) % 2 == 1) = true := by simp; omega
          clear ho HAO HAE
          go_wp2_with fail
          refine wp_region_floatG (fun W => W.heap[g17]? = some (.cells (u8s side).toArray 42 (0, 0)) ∧ W.heap[g14]? = some (.cells (u8s cur).toArray 42 (0, 0))) [0, 1] [2] [3] rfl (by kernel_rfl) rfl (by kernel_rfl) (by kernel_rfl) ?_
          intro wf7 hb
          replace HG := hid (Grow.trans HG.out hb)
          replace H14 := hid (grow_block H14.out hb)
          replace HO := hid (own_grow HO.out hb)
          replace G1 := hid (grow_block G1.out hb)
          replace H91 := hid (grow_block H91.out hb)
          replace H17 := hid (grow_block H17.out hb)
          replace H19 := hid (grow_block H19.out hb)
          replace H20 := hid (grow_block H20.out hb)
          clear hb
          refine ⟨⟨H17.out, H14.out⟩, ?_⟩
          (refine' pickT_val (v := idV side) ?po3 ?pw3 ?pr3 ?pq3 ?ph3; (case' po3 => exact rfl); (case' pw3 => rfl); (case' pq3 => (exact fun _ _ _ h => h)); (case' pr3 => (intro w' hw'; exact run_opLoadId rfl rfl hw'.1 LW.out)); (case' ph3 => (try simp only [List.getElem_toArray, List.getElem_cons_zero, List.getElem_cons_succ, Act.put, List.setIfInBounds_toArray, List.set_cons_zero, List.set_cons_succ])))
          (refine' pickT_val (v := idV cur) ?po4 ?pw4 ?pr4 ?pq4 ?ph4; (case' po4 => exact rfl); (case' pw4 => rfl); (case' pq4 => (exact fun _ _ _ h => h)); (case' pr4 => (intro w' hw'; exact run_opLoadId rfl rfl hw'.2 LC.out)); (case' ph4 => (try simp only [List.getElem_toArray, List.getElem_cons_zero, List.getElem_cons_succ, Act.put, List.setIfInBounds_toArray, List.set_cons_zero, List.set_cons_succ])))
          refine pickT_nil ?_
          refine seqT_does (V := fun _ w' => Wrote g19 (idObj side) _ w') rfl rfl (does_storeId (x := .tmp 19) (y := .tmp 62) rfl rfl rfl LW.out LC.out H19.out) ?_
          intro v wq hq
          have H17q := hid (hq.other (Nat.ne_of_lt HN179.out) H17.out)
          have H14q := hid (hq.other (Nat.ne_of_lt HN19.out) H14.out)
          have H20q := hid (hq.other (Ne.symm HNE.out) H20.out)
          have HOq := hid ((fr_grown (D := fun k => k = g19) hq.2.1 (fun k hk => .inl (Option.some.inj hk).symm)).own HO.out (fun k hk e => own_ne_blk HO.out H19.out (by decide) (by rw [hk, e])))
          have HGq := hid (show Grow w5 wq from hq.2.2 _ _ HG.out HS19.out)
          have H19q := hid (show wq.heap[g19]? = some (.cells (u8s side).toArray 42 (0, 0)) from hq.1)
          clear hq HO HG H14 H17 H19 H20 G1 H91
          refine ⟨⟨H17q.out, H14q.out⟩, ?_⟩
          refine seqT_nil ?_
          show wpList _ _ _ (_ :: []) _ _
          go_wp2_with (first | (refine op_storeId (l := cur) rfl rfl rfl rfl rfl H20q.out LW.out LC.out ?_) | fail)
          intro wr2 hz hgr hbel
          have H20 := hid hz
          have H19 := hid (blk_other hgr H19q.out HNE.out)
          have H14 := hid (blk_other hgr H14q.out (Nat.ne_of_lt HN20.out))
          have HO := hid ((fr_grown (D := fun k => k = g20) hgr (fun k hk => .inl (Option.some.inj hk).symm)).own HOq.out (fun k hk e => own_ne_blk HOq.out H20q.out (by decide) (by rw [hk, e])))
          have HG := hid (show Grow w5 wr2 from hbel _ _ HGq.out HS20.out)
          have G1 := hid (grow_block G0.out HG.out)
          have H91 := hid (grow_block H90.out HG.out)
          have H17 := hid trivial
          clear hz hgr hbel HOq HGq H14q H19q H20q H17q
          have LA := LW
          have LB := LC
          go_wp2_with fail
          (refine' wp_region_head 24 2 [_, _, _, _, _, _, _, _, _, _, _, _, _, _, _, _, _, _, _, _, _, _, _, _] rfl (by kernel_rfl) (by kernel_rfl) ?hreg5; case' hreg5 => simp only [List.take_succ_cons, List.take_zero, List.zip_cons_cons, List.zip_nil_right, List.drop_succ_cons, List.drop_zero, List.drop_nil])
          (refine' head_val ?dw6 ?de6 ?dr6 ?dh6; (case' dw6 => rfl); (case' de6 => (first | exact fun _ _ _ => trivial | (intro t ht w; cases ht; simp [upE]))); (case' dr6 => (intro w' hw' _; go_simp; with_reducible rfl)); (case' dh6 => (try simp only [Act.put, List.setIfInBounds_toArray, List.set_cons_zero, List.set_cons_succ])))
          (refine' head_loadId (x := _) rfl ?_ rfl rfl H19.out (LA.out) ?_; (first | exact fun _ _ _ => trivial | (intro t ht w; cases ht; simp [upE])); try simp only [Act.put, List.setIfInBounds_toArray, List.set_cons_zero, List.set_cons_succ])
          (refine' head_loadId (x := _) rfl ?_ rfl rfl H20.out (LB.out) ?_; (first | exact fun _ _ _ => trivial | (intro t ht w; cases ht; simp [upE])); try simp only [Act.put, List.setIfInBounds_toArray, List.set_cons_zero, List.set_cons_succ])
          (refine' head_call ?cw7 ?ce7 ?cr7 ?cc7 ?ch7; (case' cw7 => rfl); (case' ce7 => (first | exact fun _ _ _ => trivial | (intro t ht w; cases ht; simp [upE]))); (case' cr7 => (intro w'; go_simp; first | exact ⟨rfl, rfl⟩ | with_reducible rfl)); (case' cc7 => (intro w' hw' _; exact wNodeText side cur LA.out LB.out w')); (case' ch7 => (try simp only [Act.put, List.setIfInBounds_toArray, List.set_cons_zero, List.set_cons_succ])))
          (refine' head_val ?dw8 ?de8 ?dr8 ?dh8; (case' dw8 => rfl); (case' de8 => (first | exact fun _ _ _ => trivial | (intro t ht w; cases ht; simp [upE]))); (case' dr8 => (intro w' hw' _; go_simp; with_reducible rfl)); (case' dh8 => (try simp only [Act.put, List.setIfInBounds_toArray, List.set_cons_zero, List.set_cons_succ])))
          (refine' head_load1 (i := 0) (v := (.slice (some ad6) fr.length cr)) rfl ?_ rfl rfl H91.out rfl Tryz.underlying148 rfl ?_; (first | exact fun _ _ _ => trivial | (intro t ht w; cases ht; simp [upE])); try simp only [Act.put, List.setIfInBounds_toArray, List.set_cons_zero, List.set_cons_succ])
          (refine' head_val ?dw9 ?de9 ?dr9 ?dh9; (case' dw9 => rfl); (case' de9 => (first | exact fun _ _ _ => trivial | (intro t ht w; cases ht; simp [upE]))); (case' dr9 => (intro w' hw' _; go_simp; with_reducible rfl)); (case' dh9 => (try simp only [Act.put, List.setIfInBounds_toArray, List.set_cons_zero, List.set_cons_succ]))); (refine' head_val ?dw10 ?de10 ?dr10 ?dh10; (case' dw10 => rfl); (case' de10 => (first | exact fun _ _ _ => trivial | (intro t ht w; cases ht; simp [upE]))); (case' dr10 => (intro w' hw' _; go_simp; with_reducible rfl)); (case' dh10 => (try simp only [Act.put, List.setIfInBounds_toArray, List.set_cons_zero, List.set_cons_succ])))
          (refine' head_loadCell rfl ?_ rfl rfl (HCE.out _ HG.out) Tryz.underlying56 rfl ?_; (first | exact fun _ _ _ => trivial | (intro t ht w; cases ht; simp [upE])); try simp only [Act.put, List.setIfInBounds_toArray, List.set_cons_zero, List.set_cons_succ])
          (refine' head_val ?dw11 ?de11 ?dr11 ?dh11; (case' dw11 => rfl); (case' de11 => (first | exact fun _ _ _ => trivial | (intro t ht w; cases ht; simp [upE]))); (case' dr11 => (intro w' hw' _; go_simp; with_reducible rfl)); (case' dh11 => (try simp only [Act.put, List.setIfInBounds_toArray, List.set_cons_zero, List.set_cons_succ]))); (refine' head_val ?dw12 ?de12 ?dr12 ?dh12; (case' dw12 => rfl); (case' de12 => (first | exact fun _ _ _ => trivial | (intro t ht w; cases ht; simp [upE]))); (case' dr12 => (intro w' hw' _; go_simp; with_reducible rfl)); (case' dh12 => (try simp only [Act.put, List.setIfInBounds_toArray, List.set_cons_zero, List.set_cons_succ])))
          (refine' head_loadAt (x := _) rfl ?_ rfl rfl (HX1.out _ HG.out) (LX1.out) ?_; (first | exact fun _ _ _ => trivial | (intro t ht w; cases ht; simp [upE])); try simp only [Act.put, List.setIfInBounds_toArray, List.set_cons_zero, List.set_cons_succ])
          (refine' head_val ?dw13 ?de13 ?dr13 ?dh13; (case' dw13 => rfl); (case' de13 => (first | exact fun _ _ _ => trivial | (intro t ht w; cases ht; simp [upE]))); (case' dr13 => (intro w' hw' _; go_simp; with_reducible rfl)); (case' dh13 => (try simp only [Act.put, List.setIfInBounds_toArray, List.set_cons_zero, List.set_cons_succ])))
          (refine' head_load1 (i := 0) (v := (.slice (some ad6) fr.length cr)) rfl ?_ rfl rfl H91.out rfl Tryz.underlying148 rfl ?_; (first | exact fun _ _ _ => trivial | (intro t ht w; cases ht; simp [upE])); try simp only [Act.put, List.setIfInBounds_toArray, List.set_cons_zero, List.set_cons_succ])
          (refine' head_val ?dw14 ?de14 ?dr14 ?dh14; (case' dw14 => rfl); (case' de14 => (first | exact fun _ _ _ => trivial | (intro t ht w; cases ht; simp [upE]))); (case' dr14 => (intro w' hw' _; go_simp; with_reducible rfl)); (case' dh14 => (try simp only [Act.put, List.setIfInBounds_toArray, List.set_cons_zero, List.set_cons_succ]))); (refine' head_val ?dw15 ?de15 ?dr15 ?dh15; (case' dw15 => rfl); (case' de15 => (first | exact fun _ _ _ => trivial | (intro t ht w; cases ht; simp [upE]))); (case' dr15 => (intro w' hw' _; go_simp; with_reducible rfl)); (case' dh15 => (try simp only [Act.put, List.setIfInBounds_toArray, List.set_cons_zero, List.set_cons_succ])))
          (refine' head_loadCell rfl ?_ rfl rfl (HCE.out _ HG.out) Tryz.underlying56 rfl ?_; (first | exact fun _ _ _ => trivial | (intro t ht w; cases ht; simp [upE])); try simp only [Act.put, List.setIfInBounds_toArray, List.set_cons_zero, List.set_cons_succ])
          (refine' head_val ?dw16 ?de16 ?dr16 ?dh16; (case' dw16 => rfl); (case' de16 => (first | exact fun _ _ _ => trivial | (intro t ht w; cases ht; simp [upE]))); (case' dr16 => (intro w' hw' _; go_simp; with_reducible rfl)); (case' dh16 => (try simp only [Act.put, List.setIfInBounds_toArray, List.set_cons_zero, List.set_cons_succ]))); (refine' head_val ?dw17 ?de17 ?dr17 ?dh17; (case' dw17 => rfl); (case' de17 => (first | exact fun _ _ _ => trivial | (intro t ht w; cases ht; simp [upE]))); (case' dr17 => (intro w' hw' _; go_simp; with_reducible rfl)); (case' dh17 => (try simp only [Act.put, List.setIfInBounds_toArray, List.set_cons_zero, List.set_cons_succ]))); (refine' head_val ?dw18 ?de18 ?dr18 ?dh18; (case' dw18 => rfl); (case' de18 => (first | exact fun _ _ _ => trivial | (intro t ht w; cases ht; simp [upE]))); (case' dr18 => (intro w' hw' _; go_simp; with_reducible rfl)); (case' dh18 => (try simp only [Act.put, List.setIfInBounds_toArray, List.set_cons_zero, List.set_cons_succ])))
          (refine' head_loadAt (x := _) rfl ?_ rfl rfl (HX2.out _ HG.out) (LX2.out) ?_; (first | exact fun _ _ _ => trivial | (intro t ht w; cases ht; simp [upE])); try simp only [Act.put, List.setIfInBounds_toArray, List.set_cons_zero, List.set_cons_succ])
          (refine' head_call ?cw19 ?ce19 ?cr19 ?cc19 ?ch19; (case' cw19 => rfl); (case' ce19 => (first | exact fun _ _ _ => trivial | (intro t ht w; cases ht; simp [upE]))); (case' cr19 => (intro w'; go_simp; first | exact ⟨rfl, rfl⟩ | with_reducible rfl)); (case' cc19 => (intro w' hw' _; exact wNodeText x1 x2 LX1.out LX2.out w')); (case' ch19 => (try simp only [Act.put, List.setIfInBounds_toArray, List.set_cons_zero, List.set_cons_succ])))
          (refine' head_val ?dw20 ?de20 ?dr20 ?dh20; (case' dw20 => rfl); (case' de20 => (first | exact fun _ _ _ => trivial | (intro t ht w; cases ht; simp [upE]))); (case' dr20 => (intro w' hw' _; go_simp; with_reducible rfl)); (case' dh20 => (try simp only [Act.put, List.setIfInBounds_toArray, List.set_cons_zero, List.set_cons_succ])))
          (refine' head_ownRow (txC (nodeTx side cur, nodeTx x1 x2)) 2 1 112 rfl ?_ rfl (by decide) ?_; (· intro w; first | (go_simp; done) | (go_simp; first | with_reducible rfl | rfl)); intro g89; try simp only [Act.put, List.setIfInBounds_toArray, List.set_cons_zero, List.set_cons_succ])
          refine head_nil ?_
          intro w8 hb hE
          replace HG := hid (Grow.trans HG.out hb)
          replace H14 := hid (grow_block H14.out hb)
          replace HO := hid (own_grow HO.out hb)
          replace G1 := hid (grow_block G1.out hb)
          replace H91 := hid (grow_block H91.out hb)
          replace H19 := hid (grow_block H19.out hb)
          replace H20 := hid (grow_block H20.out hb)
          clear hb
          have HNW := hid (ownRow_at (hE 89))
          clear hE
          have HSZ := hid HG.out.size
          have HOB := hid (own_ne_blk HO.out H14.out (by decide))
          go_wp2_with (first | (refine op_appOwn (n := l) (m := 1) (B := w5.heap.size) (news := txC (nodeTx side cur, nodeTx x1 x2)) rfl rfl Tryz.underlying110 infoTxZ rfl (by decide) rfl rfl rfl (own_cellsA HNW.out) (fun h => by cases h) (txC_one _) HO.out HSZ.out (by omega) (by omega) ?_) | fail)
          intro v1 wb1 ho1 hg1 _
          have HO1 := hid (show wb1.ownsRow w5.heap.size 112 2 v1 (l + 1) (txCells ((List.range (l + 1)).map (nodeP seed b leaf s0 way))) by rw [HMS.out, txCells_snoc, HNP.out, hA1, hB1]; exact ho1)
          have H141 := hid (blk_other' hg1 H14.out (own_ne_blk HO.out H14.out (by decide)))
          have HG1 := hid (show Grow w5 wb1 from Below.trans (show Below w5.heap.size w5 _ from HG.out) ((fr_grown (D := fun k => _) hg1 (fun k hk => .inl hk)).below (fun k hk => (own_lt HO.out hk).1) HSZ.out))
          clear ho1 hg1
          clear HO H14 HG G1 H91 H19 H20 H17 HNW HSZ HOB
          have HO := HO1
          have H14 := H141
          have HG := HG1
          have G1 := hid (grow_block G0.out HG.out)
          clear HO1 H141 HG1
          obtain ⟨l2, hl2⟩ : ∃ g, g = l + 1 := ⟨_, rfl⟩
          have hlw : (l : Int) + 1 = (l2 : Int) := by omega
          have hwl : IntKind.i64.wrap (l2 : Int) = (l2 : Int) := IntWalk.i64_in _ (by omega)
          have hsl := fun w => run_idsSub (ad := adw) (n := k) (c := e) (k := l) hlt HKE.out w
          rw [hlw] at hsl
          clear hl2
          have HRS := hid (fun w' hw => idRow_single (s := side) (HWC.out w' hw))
          have HCL := hid (fun w' (hw : IdRow w' (some (adw.add (l * 32))) [side]) => ktClimb ((q : Int) % 2) (q % 2) (by omega) (by omega) cur LC.out (some (adw.add (l * 32))) 1 (e - l) [side] w' hw rfl (fun s hs => by rw [List.mem_singleton.1 hs]; exact LW.out) (by omega))
          rw [HST.out] at HCL
          have LN1 := hid (HLC.out (l + 1))
          clear hA1 hB1
          generalize hnx : curW leaf s0 way (l + 1) = nxt at *
          have HNX := hid hnx
          clear hnx
          go_wp2_with fail
          (refine' wp_region_head 10 1 [_, _, _, _, _, _, _, _, _, _] rfl (by kernel_rfl) (by kernel_rfl) ?hreg21; case' hreg21 => simp only [List.take_succ_cons, List.take_zero, List.zip_cons_cons, List.zip_nil_right, List.drop_succ_cons, List.drop_zero, List.drop_nil])
          (refine' head_val ?dw22 ?de22 ?dr22 ?dh22; (case' dw22 => rfl); (case' de22 => (first | exact fun _ _ _ => trivial | (intro t ht w; cases ht; simp [upE]))); (case' dr22 => (intro w' hw' _; go_simp; with_reducible rfl)); (case' dh22 => (try simp only [Act.put, List.setIfInBounds_toArray, List.set_cons_zero, List.set_cons_succ]))); (refine' head_val ?dw23 ?de23 ?dr23 ?dh23; (case' dw23 => rfl); (case' de23 => (first | exact fun _ _ _ => trivial | (intro t ht w; cases ht; simp [upE]))); (case' dr23 => (intro w' hw' _; go_simp; with_reducible rfl)); (case' dh23 => (try simp only [Act.put, List.setIfInBounds_toArray, List.set_cons_zero, List.set_cons_succ])))
          (refine' head_loadId (x := _) rfl ?_ rfl rfl H14.out (LC.out) ?_; (first | exact fun _ _ _ => trivial | (intro t ht w; cases ht; simp [upE])); try simp only [Act.put, List.setIfInBounds_toArray, List.set_cons_zero, List.set_cons_succ])
          (refine' head_val ?dw24 ?de24 ?dr24 ?dh24; (case' dw24 => rfl); (case' de24 => (first | exact fun _ _ _ => trivial | (intro t ht w; cases ht; simp [upE]))); (case' dr24 => (intro w' hw' _; go_simp; with_reducible rfl)); (case' dh24 => (try simp only [Act.put, List.setIfInBounds_toArray, List.set_cons_zero, List.set_cons_succ])))
          (refine' head_load1 (i := 3) (v := (.slice (some adw) k e)) rfl ?_ rfl rfl G1.out rfl Tryz.underlying56 rfl ?_; (first | exact fun _ _ _ => trivial | (intro t ht w; cases ht; simp [upE])); try simp only [Act.put, List.setIfInBounds_toArray, List.set_cons_zero, List.set_cons_succ])
          (refine' head_val ?dw25 ?de25 ?dr25 ?dh25; (case' dw25 => rfl); (case' de25 => (first | exact fun _ _ _ => trivial | (intro t ht w; cases ht; simp [upE]))); (case' dr25 => (intro w' hw' _; go_simp; with_reducible rfl)); (case' dh25 => (try simp only [Act.put, List.setIfInBounds_toArray, List.set_cons_zero, List.set_cons_succ]))); (refine' head_val ?dw26 ?de26 ?dr26 ?dh26; (case' dw26 => rfl); (case' de26 => (first | exact fun _ _ _ => trivial | (intro t ht w; cases ht; simp [upE]))); (case' dr26 => (intro w' hw' _; go_simp; with_reducible rfl)); (case' dh26 => (try simp only [Act.put, List.setIfInBounds_toArray, List.set_cons_zero, List.set_cons_succ]))); (refine' head_val ?dw27 ?de27 ?dr27 ?dh27; (case' dw27 => rfl); (case' de27 => (first | exact fun _ _ _ => trivial | (intro t ht w; cases ht; simp [upE]))); (case' dr27 => (intro w' hw' _; go_simp; with_reducible rfl)); (case' dh27 => (try simp only [Act.put, List.setIfInBounds_toArray, List.set_cons_zero, List.set_cons_succ])))
          (refine' head_val (v := .slice (some (adw.add (l * 32))) 1 (e - l)) ?dw28 ?de28 ?dr28 ?dh28; (case' dw28 => rfl); (case' de28 => (first | exact fun _ _ _ => trivial | (intro t ht w; cases ht; simp [upE]))); (case' dr28 => (intro w' hw' hE; exact run_opSlice rfl rfl rfl rfl (hsl w'))); (case' dh28 => (try simp only [Act.put, List.setIfInBounds_toArray, List.set_cons_zero, List.set_cons_succ])))
          (refine' head_call ?cw29 ?ce29 ?cr29 ?cc29 ?ch29; (case' cw29 => rfl); (case' ce29 => (first | exact fun _ _ _ => trivial | (intro t ht w; cases ht; simp [upE]))); (case' cr29 => (intro w'; go_simp; first | exact ⟨rfl, rfl⟩ | with_reducible rfl)); (case' cc29 => (intro w' hw' _; exact HCL.out w' (HRS.out w' (Grow.trans HG.out hw')))); (case' ch29 => (try simp only [Act.put, List.setIfInBounds_toArray, List.set_cons_zero, List.set_cons_succ])))
          refine head_nil ?_
          intro w9 hb _
          replace HG := hid (Grow.trans HG.out hb)
          replace H14 := hid (grow_block H14.out hb)
          replace HO := hid (own_grow HO.out hb)
          replace G1 := hid (grow_block G1.out hb)
          clear hb
          clear hsl
          go_wp2_with (first | (refine op_storeId (l := nxt) rfl rfl rfl rfl rfl H14.out LC.out LN1.out ?_) | fail)
          intro wz hz hgr hbel
          have HO1 := hid ((fr_grown (D := fun k => k = g14) hgr (fun k hk => .inl (Option.some.inj hk).symm)).own HO.out (fun k hk e => own_ne_blk HO.out H14.out (by decide) (by rw [hk, e])))
          have HG1 := hid (show Grow w5 wz from hbel _ _ HG.out H14G.out)
          have H141 := hid hz
          clear hz hgr hbel HO HG H14
          go_wp2_with fail
          go_roundg (k + 1 - (l + 1))
          case rel => exact ⟨l + 1, by omega, rfl, by go_num, HO1, hid (by rw [HNX.out]; exact H141.out), HG1⟩
          case measure => omega
        · obtain ⟨hA1, hB1⟩ := HAE.out ho
          have tp : ((q : Int) % 2 == 1) = false := by simp; omega
          clear ho HAO HAE
          have LA := LC
          have LB := LW
          go_wp2_with fail
          (refine' wp_region_head 24 2 [_, _, _, _, _, _, _, _, _, _, _, _, _, _, _, _, _, _, _, _, _, _, _, _] rfl (by kernel_rfl) (by kernel_rfl) ?hreg30; case' hreg30 => simp only [List.take_succ_cons, List.take_zero, List.zip_cons_cons, List.zip_nil_right, List.drop_succ_cons, List.drop_zero, List.drop_nil])
          (refine' head_val ?dw31 ?de31 ?dr31 ?dh31; (case' dw31 => rfl); (case' de31 => (first | exact fun _ _ _ => trivial | (intro t ht w; cases ht; simp [upE]))); (case' dr31 => (intro w' hw' _; go_simp; with_reducible rfl)); (case' dh31 => (try simp only [Act.put, List.setIfInBounds_toArray, List.set_cons_zero, List.set_cons_succ])))
          (refine' head_loadId (x := _) rfl ?_ rfl rfl H19.out (LA.out) ?_; (first | exact fun _ _ _ => trivial | (intro t ht w; cases ht; simp [upE])); try simp only [Act.put, List.setIfInBounds_toArray, List.set_cons_zero, List.set_cons_succ])
          (refine' head_loadId (x := _) rfl ?_ rfl rfl H20.out (LB.out) ?_; (first | exact fun _ _ _ => trivial | (intro t ht w; cases ht; simp [upE])); try simp only [Act.put, List.setIfInBounds_toArray, List.set_cons_zero, List.set_cons_succ])
          (refine' head_call ?cw32 ?ce32 ?cr32 ?cc32 ?ch32; (case' cw32 => rfl); (case' ce32 => (first | exact fun _ _ _ => trivial | (intro t ht w; cases ht; simp [upE]))); (case' cr32 => (intro w'; go_simp; first | exact ⟨rfl, rfl⟩ | with_reducible rfl)); (case' cc32 => (intro w' hw' _; exact wNodeText cur side LA.out LB.out w')); (case' ch32 => (try simp only [Act.put, List.setIfInBounds_toArray, List.set_cons_zero, List.set_cons_succ])))
          (refine' head_val ?dw33 ?de33 ?dr33 ?dh33; (case' dw33 => rfl); (case' de33 => (first | exact fun _ _ _ => trivial | (intro t ht w; cases ht; simp [upE]))); (case' dr33 => (intro w' hw' _; go_simp; with_reducible rfl)); (case' dh33 => (try simp only [Act.put, List.setIfInBounds_toArray, List.set_cons_zero, List.set_cons_succ])))
          (refine' head_load1 (i := 0) (v := (.slice (some ad6) fr.length cr)) rfl ?_ rfl rfl H91.out rfl Tryz.underlying148 rfl ?_; (first | exact fun _ _ _ => trivial | (intro t ht w; cases ht; simp [upE])); try simp only [Act.put, List.setIfInBounds_toArray, List.set_cons_zero, List.set_cons_succ])
          (refine' head_val ?dw34 ?de34 ?dr34 ?dh34; (case' dw34 => rfl); (case' de34 => (first | exact fun _ _ _ => trivial | (intro t ht w; cases ht; simp [upE]))); (case' dr34 => (intro w' hw' _; go_simp; with_reducible rfl)); (case' dh34 => (try simp only [Act.put, List.setIfInBounds_toArray, List.set_cons_zero, List.set_cons_succ]))); (refine' head_val ?dw35 ?de35 ?dr35 ?dh35; (case' dw35 => rfl); (case' de35 => (first | exact fun _ _ _ => trivial | (intro t ht w; cases ht; simp [upE]))); (case' dr35 => (intro w' hw' _; go_simp; with_reducible rfl)); (case' dh35 => (try simp only [Act.put, List.setIfInBounds_toArray, List.set_cons_zero, List.set_cons_succ])))
          (refine' head_loadCell rfl ?_ rfl rfl (HCE.out _ HG.out) Tryz.underlying56 rfl ?_; (first | exact fun _ _ _ => trivial | (intro t ht w; cases ht; simp [upE])); try simp only [Act.put, List.setIfInBounds_toArray, List.set_cons_zero, List.set_cons_succ])
          (refine' head_val ?dw36 ?de36 ?dr36 ?dh36; (case' dw36 => rfl); (case' de36 => (first | exact fun _ _ _ => trivial | (intro t ht w; cases ht; simp [upE]))); (case' dr36 => (intro w' hw' _; go_simp; with_reducible rfl)); (case' dh36 => (try simp only [Act.put, List.setIfInBounds_toArray, List.set_cons_zero, List.set_cons_succ]))); (refine' head_val ?dw37 ?de37 ?dr37 ?dh37; (case' dw37 => rfl); (case' de37 => (first | exact fun _ _ _ => trivial | (intro t ht w; cases ht; simp [upE]))); (case' dr37 => (intro w' hw' _; go_simp; with_reducible rfl)); (case' dh37 => (try simp only [Act.put, List.setIfInBounds_toArray, List.set_cons_zero, List.set_cons_succ])))
          (refine' head_loadAt (x := _) rfl ?_ rfl rfl (HX1.out _ HG.out) (LX1.out) ?_; (first | exact fun _ _ _ => trivial | (intro t ht w; cases ht; simp [upE])); try simp only [Act.put, List.setIfInBounds_toArray, List.set_cons_zero, List.set_cons_succ])
          (refine' head_val ?dw38 ?de38 ?dr38 ?dh38; (case' dw38 => rfl); (case' de38 => (first | exact fun _ _ _ => trivial | (intro t ht w; cases ht; simp [upE]))); (case' dr38 => (intro w' hw' _; go_simp; with_reducible rfl)); (case' dh38 => (try simp only [Act.put, List.setIfInBounds_toArray, List.set_cons_zero, List.set_cons_succ])))
          (refine' head_load1 (i := 0) (v := (.slice (some ad6) fr.length cr)) rfl ?_ rfl rfl H91.out rfl Tryz.underlying148 rfl ?_; (first | exact fun _ _ _ => trivial | (intro t ht w; cases ht; simp [upE])); try simp only [Act.put, List.setIfInBounds_toArray, List.set_cons_zero, List.set_cons_succ])
          (refine' head_val ?dw39 ?de39 ?dr39 ?dh39; (case' dw39 => rfl); (case' de39 => (first | exact fun _ _ _ => trivial | (intro t ht w; cases ht; simp [upE]))); (case' dr39 => (intro w' hw' _; go_simp; with_reducible rfl)); (case' dh39 => (try simp only [Act.put, List.setIfInBounds_toArray, List.set_cons_zero, List.set_cons_succ]))); (refine' head_val ?dw40 ?de40 ?dr40 ?dh40; (case' dw40 => rfl); (case' de40 => (first | exact fun _ _ _ => trivial | (intro t ht w; cases ht; simp [upE]))); (case' dr40 => (intro w' hw' _; go_simp; with_reducible rfl)); (case' dh40 => (try simp only [Act.put, List.setIfInBounds_toArray, List.set_cons_zero, List.set_cons_succ])))
          (refine' head_loadCell rfl ?_ rfl rfl (HCE.out _ HG.out) Tryz.underlying56 rfl ?_; (first | exact fun _ _ _ => trivial | (intro t ht w; cases ht; simp [upE])); try simp only [Act.put, List.setIfInBounds_toArray, List.set_cons_zero, List.set_cons_succ])
          (refine' head_val ?dw41 ?de41 ?dr41 ?dh41; (case' dw41 => rfl); (case' de41 => (first | exact fun _ _ _ => trivial | (intro t ht w; cases ht; simp [upE]))); (case' dr41 => (intro w' hw' _; go_simp; with_reducible rfl)); (case' dh41 => (try simp only [Act.put, List.setIfInBounds_toArray, List.set_cons_zero, List.set_cons_succ]))); (refine' head_val ?dw42 ?de42 ?dr42 ?dh42; (case' dw42 => rfl); (case' de42 => (first | exact fun _ _ _ => trivial | (intro t ht w; cases ht; simp [upE]))); (case' dr42 => (intro w' hw' _; go_simp; with_reducible rfl)); (case' dh42 => (try simp only [Act.put, List.setIfInBounds_toArray, List.set_cons_zero, List.set_cons_succ]))); (refine' head_val ?dw43 ?de43 ?dr43 ?dh43; (case' dw43 => rfl); (case' de43 => (first | exact fun _ _ _ => trivial | (intro t ht w; cases ht; simp [upE]))); (case' dr43 => (intro w' hw' _; go_simp; with_reducible rfl)); (case' dh43 => (try simp only [Act.put, List.setIfInBounds_toArray, List.set_cons_zero, List.set_cons_succ])))
          (refine' head_loadAt (x := _) rfl ?_ rfl rfl (HX2.out _ HG.out) (LX2.out) ?_; (first | exact fun _ _ _ => trivial | (intro t ht w; cases ht; simp [upE])); try simp only [Act.put, List.setIfInBounds_toArray, List.set_cons_zero, List.set_cons_succ])
          (refine' head_call ?cw44 ?ce44 ?cr44 ?cc44 ?ch44; (case' cw44 => rfl); (case' ce44 => (first | exact fun _ _ _ => trivial | (intro t ht w; cases ht; simp [upE]))); (case' cr44 => (intro w'; go_simp; first | exact ⟨rfl, rfl⟩ | with_reducible rfl)); (case' cc44 => (intro w' hw' _; exact wNodeText x1 x2 LX1.out LX2.out w')); (case' ch44 => (try simp only [Act.put, List.setIfInBounds_toArray, List.set_cons_zero, List.set_cons_succ])))
          (refine' head_val ?dw45 ?de45 ?dr45 ?dh45; (case' dw45 => rfl); (case' de45 => (first | exact fun _ _ _ => trivial | (intro t ht w; cases ht; simp [upE]))); (case' dr45 => (intro w' hw' _; go_simp; with_reducible rfl)); (case' dh45 => (try simp only [Act.put, List.setIfInBounds_toArray, List.set_cons_zero, List.set_cons_succ])))
          (refine' head_ownRow (txC (nodeTx cur side, nodeTx x1 x2)) 2 1 112 rfl ?_ rfl (by decide) ?_; (· intro w; first | (go_simp; done) | (go_simp; first | with_reducible rfl | rfl)); intro g89; try simp only [Act.put, List.setIfInBounds_toArray, List.set_cons_zero, List.set_cons_succ])
          refine head_nil ?_
          intro w10 hb hE
          replace HG := hid (Grow.trans HG.out hb)
          replace H14 := hid (grow_block H14.out hb)
          replace HO := hid (own_grow HO.out hb)
          replace G1 := hid (grow_block G1.out hb)
          replace H91 := hid (grow_block H91.out hb)
          replace H17 := hid (grow_block H17.out hb)
          replace H19 := hid (grow_block H19.out hb)
          replace H20 := hid (grow_block H20.out hb)
          clear hb
          have HNW := hid (ownRow_at (hE 89))
          clear hE
          have HSZ := hid HG.out.size
          have HOB := hid (own_ne_blk HO.out H14.out (by decide))
          go_wp2_with (first | (refine op_appOwn (n := l) (m := 1) (B := w5.heap.size) (news := txC (nodeTx cur side, nodeTx x1 x2)) rfl rfl Tryz.underlying110 infoTxZ rfl (by decide) rfl rfl rfl (own_cellsA HNW.out) (fun h => by cases h) (txC_one _) HO.out HSZ.out (by omega) (by omega) ?_) | fail)
          intro v1 wb1 ho1 hg1 _
          have HO1 := hid (show wb1.ownsRow w5.heap.size 112 2 v1 (l + 1) (txCells ((List.range (l + 1)).map (nodeP seed b leaf s0 way))) by rw [HMS.out, txCells_snoc, HNP.out, hA1, hB1]; exact ho1)
          have H141 := hid (blk_other' hg1 H14.out (own_ne_blk HO.out H14.out (by decide)))
          have HG1 := hid (show Grow w5 wb1 from Below.trans (show Below w5.heap.size w5 _ from HG.out) ((fr_grown (D := fun k => _) hg1 (fun k hk => .inl hk)).below (fun k hk => (own_lt HO.out hk).1) HSZ.out))
          clear ho1 hg1
          clear HO H14 HG G1 H91 H19 H20 H17 HNW HSZ HOB
          have HO := HO1
          have H14 := H141
          have HG := HG1
          have G1 := hid (grow_block G0.out HG.out)
          clear HO1 H141 HG1
          obtain ⟨l2, hl2⟩ : ∃ g, g = l + 1 := ⟨_, rfl⟩
          have hlw : (l : Int) + 1 = (l2 : Int) := by omega
          have hwl : IntKind.i64.wrap (l2 : Int) = (l2 : Int) := IntWalk.i64_in _ (by omega)
          have hsl := fun w => run_idsSub (ad := adw) (n := k) (c := e) (k := l) hlt HKE.out w
          rw [hlw] at hsl
          clear hl2
          have HRS := hid (fun w' hw => idRow_single (s := side) (HWC.out w' hw))
          have HCL := hid (fun w' (hw : IdRow w' (some (adw.add (l * 32))) [side]) => ktClimb ((q : Int) % 2) (q % 2) (by omega) (by omega) cur LC.out (some (adw.add (l * 32))) 1 (e - l) [side] w' hw rfl (fun s hs => by rw [List.mem_singleton.1 hs]; exact LW.out) (by omega))
          rw [HST.out] at HCL
          have LN1 := hid (HLC.out (l + 1))
          clear hA1 hB1
          generalize hnx : curW leaf s0 way (l + 1) = nxt at *
          have HNX := hid hnx
          clear hnx
          go_wp2_with fail
          (refine' wp_region_head 10 1 [_, _, _, _, _, _, _, _, _, _] rfl (by kernel_rfl) (by kernel_rfl) ?hreg46; case' hreg46 => simp only [List.take_succ_cons, List.take_zero, List.zip_cons_cons, List.zip_nil_right, List.drop_succ_cons, List.drop_zero, List.drop_nil])
          (refine' head_val ?dw47 ?de47 ?dr47 ?dh47; (case' dw47 => rfl); (case' de47 => (first | exact fun _ _ _ => trivial | (intro t ht w; cases ht; simp [upE]))); (case' dr47 => (intro w' hw' _; go_simp; with_reducible rfl)); (case' dh47 => (try simp only [Act.put, List.setIfInBounds_toArray, List.set_cons_zero, List.set_cons_succ]))); (refine' head_val ?dw48 ?de48 ?dr48 ?dh48; (case' dw48 => rfl); (case' de48 => (first | exact fun _ _ _ => trivial | (intro t ht w; cases ht; simp [upE]))); (case' dr48 => (intro w' hw' _; go_simp; with_reducible rfl)); (case' dh48 => (try simp only [Act.put, List.setIfInBounds_toArray, List.set_cons_zero, List.set_cons_succ])))
          (refine' head_loadId (x := _) rfl ?_ rfl rfl H14.out (LC.out) ?_; (first | exact fun _ _ _ => trivial | (intro t ht w; cases ht; simp [upE])); try simp only [Act.put, List.setIfInBounds_toArray, List.set_cons_zero, List.set_cons_succ])
          (refine' head_val ?dw49 ?de49 ?dr49 ?dh49; (case' dw49 => rfl); (case' de49 => (first | exact fun _ _ _ => trivial | (intro t ht w; cases ht; simp [upE]))); (case' dr49 => (intro w' hw' _; go_simp; with_reducible rfl)); (case' dh49 => (try simp only [Act.put, List.setIfInBounds_toArray, List.set_cons_zero, List.set_cons_succ])))
          (refine' head_load1 (i := 3) (v := (.slice (some adw) k e)) rfl ?_ rfl rfl G1.out rfl Tryz.underlying56 rfl ?_; (first | exact fun _ _ _ => trivial | (intro t ht w; cases ht; simp [upE])); try simp only [Act.put, List.setIfInBounds_toArray, List.set_cons_zero, List.set_cons_succ])
          (refine' head_val ?dw50 ?de50 ?dr50 ?dh50; (case' dw50 => rfl); (case' de50 => (first | exact fun _ _ _ => trivial | (intro t ht w; cases ht; simp [upE]))); (case' dr50 => (intro w' hw' _; go_simp; with_reducible rfl)); (case' dh50 => (try simp only [Act.put, List.setIfInBounds_toArray, List.set_cons_zero, List.set_cons_succ]))); (refine' head_val ?dw51 ?de51 ?dr51 ?dh51; (case' dw51 => rfl); (case' de51 => (first | exact fun _ _ _ => trivial | (intro t ht w; cases ht; simp [upE]))); (case' dr51 => (intro w' hw' _; go_simp; with_reducible rfl)); (case' dh51 => (try simp only [Act.put, List.setIfInBounds_toArray, List.set_cons_zero, List.set_cons_succ]))); (refine' head_val ?dw52 ?de52 ?dr52 ?dh52; (case' dw52 => rfl); (case' de52 => (first | exact fun _ _ _ => trivial | (intro t ht w; cases ht; simp [upE]))); (case' dr52 => (intro w' hw' _; go_simp; with_reducible rfl)); (case' dh52 => (try simp only [Act.put, List.setIfInBounds_toArray, List.set_cons_zero, List.set_cons_succ])))
          (refine' head_val (v := .slice (some (adw.add (l * 32))) 1 (e - l)) ?dw53 ?de53 ?dr53 ?dh53; (case' dw53 => rfl); (case' de53 => (first | exact fun _ _ _ => trivial | (intro t ht w; cases ht; simp [upE]))); (case' dr53 => (intro w' hw' hE; exact run_opSlice rfl rfl rfl rfl (hsl w'))); (case' dh53 => (try simp only [Act.put, List.setIfInBounds_toArray, List.set_cons_zero, List.set_cons_succ])))
          (refine' head_call ?cw54 ?ce54 ?cr54 ?cc54 ?ch54; (case' cw54 => rfl); (case' ce54 => (first | exact fun _ _ _ => trivial | (intro t ht w; cases ht; simp [upE]))); (case' cr54 => (intro w'; go_simp; first | exact ⟨rfl, rfl⟩ | with_reducible rfl)); (case' cc54 => (intro w' hw' _; exact HCL.out w' (HRS.out w' (Grow.trans HG.out hw')))); (case' ch54 => (try simp only [Act.put, List.setIfInBounds_toArray, List.set_cons_zero, List.set_cons_succ])))
          refine head_nil ?_
          intro w11 hb _
          replace HG := hid (Grow.trans HG.out hb)
          replace H14 := hid (grow_block H14.out hb)
          replace HO := hid (own_grow HO.out hb)
          replace G1 := hid (grow_block G1.out hb)
          clear hb
          clear hsl
          go_wp2_with (first | (refine op_storeId (l := nxt) rfl rfl rfl rfl rfl H14.out LC.out LN1.out ?_) | fail)
          intro wz hz hgr hbel
          have HO1 := hid ((fr_grown (D := fun k => k = g14) hgr (fun k hk => .inl (Option.some.inj hk).symm)).own HO.out (fun k hk e => own_ne_blk HO.out H14.out (by decide) (by rw [hk, e])))
          have HG1 := hid (show Grow w5 wz from hbel _ _ HG.out H14G.out)
          have H141 := hid hz
          clear hz hgr hbel HO HG H14
          go_wp2_with fail
          go_roundg (k + 1 - (l + 1))
          case rel => exact ⟨l + 1, by omega, rfl, by go_num, HO1, hid (by rw [HNX.out]; exact H141.out), HG1⟩
          case measure => omega
    · obtain rfl : l = k := by omega
      have P1 := hid (grow_block P0.out HG.out)
      have HSZ := hid HG.out.size
      have HOk := hid (show OwnTx w5.heap.size wr u15 ((List.range l).map (nodeP seed b leaf s0 way)) by unfold OwnTx; rw [List.length_map, List.length_range]; exact HO.out)
      have HRV := hid (revTx ((List.range l).map (nodeP seed b leaf s0 way)) (by rw [List.length_map, List.length_range]; omega) u15 w5.heap.size wr HOk.out HSZ.out)
      have HOB := hid (own_ne_blk HO.out H14.out (by decide))
      go_wp2_with fail
      refine HRV.out.mono ?_
      rintro _ wv ⟨rfl, hrv, hfr⟩
      obtain ⟨Av, cv, hv, hsl⟩ := own_sl hrv
      subst hv
      have HNO := hid (own_noneA hrv)
      have HSL := hid hsl
      have HG2 := hid (show Grow w5 wv from Below.trans (show Below w5.heap.size w5 wr from HG.out) (hfr.below (fun q hq => (own_lt HOk.out hq).1) HSZ.out))
      have H142 := hid (hfr.blk H14.out HOB.out)
      clear hrv hsl hfr HOk HRV HOB HSZ HO HG H14 P1
      have HG := HG2
      have H14 := H142
      clear HG2 H142
      have P1 := hid (grow_block P0.out HG.out)
      have G1 := hid (grow_block G0.out HG.out)
      have H91 := hid (grow_block H90.out HG.out)
      have RP1 := hid (RP0.out.grow HG.out)
      have HBw := hid (Grow.trans HB0.out HG.out)
      have LC := hid (HLC.out l)
      have HRL9 := hid (show ((List.range l).map (nodeP seed b leaf s0 way)).reverse.length = l by simp)
      have HTW := hid (show textsW seed b l leaf s0 way ps = ((keyTx b l (curW leaf s0 way l), keyTx b l root) :: ((List.range l).map (nodeP seed b leaf s0 way)).reverse) ++ [(leafTx ps, leafTx (bothRow (leafPub seed leaf) b))] by
        unfold textsW curW
        rw [HKK.out, HROOT.out, List.take_of_length_le (by rw [HKK.out]; exact Nat.le_refl _)])
      rw [HRL9.out]
      generalize ((List.range l).map (nodeP seed b leaf s0 way)).reverse = rv at *
      generalize curW leaf s0 way l = fin at *
      have HLV := hid (txCells_length rv)
      clear HBw G1 RP1
      go_wp2_with fail
      have HKX := hid (fun (r : IdK) (hr : r.length = 32) w => wKeyText b l r hr HKT.out w)
      (refine' wp_region_head 10 2 [_, _, _, _, _, _, _, _, _, _] rfl (by kernel_rfl) (by kernel_rfl) ?hreg55; case' hreg55 => simp only [List.take_succ_cons, List.take_zero, List.zip_cons_cons, List.zip_nil_right, List.drop_succ_cons, List.drop_zero, List.drop_nil])
      (refine' head_loadB rfl ?_ rfl rfl P1.out Tryz.underlying54 rfl rfl ?_; (first | exact fun _ _ _ => trivial | (intro t ht w; cases ht; simp [upE])); try simp only [Act.put, List.setIfInBounds_toArray, List.set_cons_zero, List.set_cons_succ])
      (refine' head_loadId (x := _) rfl ?_ rfl rfl H14.out (LC.out) ?_; (first | exact fun _ _ _ => trivial | (intro t ht w; cases ht; simp [upE])); try simp only [Act.put, List.setIfInBounds_toArray, List.set_cons_zero, List.set_cons_succ])
      (refine' head_call ?cw56 ?ce56 ?cr56 ?cc56 ?ch56; (case' cw56 => rfl); (case' ce56 => (first | exact fun _ _ _ => trivial | (intro t ht w; cases ht; simp [upE]))); (case' cr56 => (intro w'; go_simp; first | exact ⟨rfl, rfl⟩ | with_reducible rfl)); (case' cc56 => (intro w' hw' _; exact HKX.out fin LC.out w')); (case' ch56 => (try simp only [Act.put, List.setIfInBounds_toArray, List.set_cons_zero, List.set_cons_succ])))
      (refine' head_loadB rfl ?_ rfl rfl P1.out Tryz.underlying54 rfl rfl ?_; (first | exact fun _ _ _ => trivial | (intro t ht w; cases ht; simp [upE])); try simp only [Act.put, List.setIfInBounds_toArray, List.set_cons_zero, List.set_cons_succ])
      (refine' head_val ?dw57 ?de57 ?dr57 ?dh57; (case' dw57 => rfl); (case' de57 => (first | exact fun _ _ _ => trivial | (intro t ht w; cases ht; simp [upE]))); (case' dr57 => (intro w' hw' _; go_simp; with_reducible rfl)); (case' dh57 => (try simp only [Act.put, List.setIfInBounds_toArray, List.set_cons_zero, List.set_cons_succ])))
      (refine' head_loadAt (x := _) rfl ?_ rfl rfl (own_root_cells H91.out) (LN.out) ?_; (first | exact fun _ _ _ => trivial | (intro t ht w; cases ht; simp [upE])); try simp only [Act.put, List.setIfInBounds_toArray, List.set_cons_zero, List.set_cons_succ])
      (refine' head_call ?cw58 ?ce58 ?cr58 ?cc58 ?ch58; (case' cw58 => rfl); (case' ce58 => (first | exact fun _ _ _ => trivial | (intro t ht w; cases ht; simp [upE]))); (case' cr58 => (intro w'; go_simp; first | exact ⟨rfl, rfl⟩ | with_reducible rfl)); (case' cc58 => (intro w' hw' _; exact HKX.out root LN.out w')); (case' ch58 => (try simp only [Act.put, List.setIfInBounds_toArray, List.set_cons_zero, List.set_cons_succ])))
      (refine' head_val ?dw59 ?de59 ?dr59 ?dh59; (case' dw59 => rfl); (case' de59 => (first | exact fun _ _ _ => trivial | (intro t ht w; cases ht; simp [upE]))); (case' dr59 => (intro w' hw' _; go_simp; with_reducible rfl)); (case' dh59 => (try simp only [Act.put, List.setIfInBounds_toArray, List.set_cons_zero, List.set_cons_succ])))
      (refine' head_ownRow (txC (keyTx b l fin, keyTx b l root)) 2 1 112 rfl ?_ rfl (by decide) ?_; (· intro w; first | (go_simp; done) | (go_simp; first | with_reducible rfl | rfl)); intro g112; try simp only [Act.put, List.setIfInBounds_toArray, List.set_cons_zero, List.set_cons_succ])
      (refine' head_val ?dw60 ?de60 ?dr60 ?dh60; (case' dw60 => rfl); (case' de60 => (first | exact fun _ _ _ => trivial | (intro t ht w; cases ht; simp [upE]))); (case' dr60 => (intro w' hw' _; go_simp; with_reducible rfl)); (case' dh60 => (try simp only [Act.put, List.setIfInBounds_toArray, List.set_cons_zero, List.set_cons_succ])))
      have HSW := hid HG.out.size
      refine head_nil ?_
      intro w12 hb hE
      replace HG := hid (Grow.trans HG.out hb)
      replace H14 := hid (grow_block H14.out hb)
      replace P1 := hid (grow_block P1.out hb)
      replace H91 := hid (grow_block H91.out hb)
      replace HSL := hid (HSL.out.grow hb)
      clear hb
      have HNW := hid (own_rebase (C := w5.heap.size) (ownRow_at (hE 112)) (fun q hq => Nat.le_trans HSW.out (own_lt (ownRow_at (hE 112)) hq).1))
      clear hE HSW
      have HSZ := hid HG.out.size
      go_wp2_with (first | (refine op_appOwn (n := 1) (m := l) (B := w5.heap.size) (news := txCells rv) rfl rfl Tryz.underlying110 infoTxZ rfl (by decide) rfl rfl (by rw [HLV.out, HRL9.out]) HSL.out HNO.out (txCells_one _) HNW.out HSZ.out (by omega) (by omega) ?_) | fail)
      intro v1 wb1 ho1 hg1 _
      have HO := hid (show wb1.ownsRow w5.heap.size 112 2 v1 (1 + l) (txCells ((keyTx b l fin, keyTx b l root) :: rv)) from ho1)
      have HG1 := hid (show Grow w5 wb1 from Below.trans (show Below w5.heap.size w5 _ from HG.out) ((fr_grown (D := fun k => _) hg1 (fun k hk => .inl hk)).below (fun k hk => (own_lt HNW.out hk).1) HSZ.out))
      clear ho1 hg1 HG P1 H91 H14 HNW HSZ HSL HKX
      have HG := HG1
      have P1 := hid (grow_block P0.out HG.out)
      have G1 := hid (grow_block G0.out HG.out)
      have RP1 := hid (RP0.out.grow HG.out)
      clear HG1
      have HPUB := hid (fun w => wPublics seed HS2.out b l hb256 (leaf : Int) (by omega) w)
      have HBL := hid (bothRow_length (leafPub seed leaf) b)
      have HB32 := hid (bothRow_32 _ (leafPub_length seed leaf) b)
      have HLT := hid (fun A c w' (h : IdRow w' A (bothRow (leafPub seed leaf) b)) => wLeafText A (bothRow (leafPub seed leaf) b).length c (bothRow (leafPub seed leaf) b) w' h rfl HB32.out (by rw [HBL.out]; omega))
      generalize bothRow (leafPub seed leaf) b = bp at *
      go_wp2_with fail
      (refine' wp_region_head 11 2 [_, _, _, _, _, _, _, _, _, _, _] rfl (by kernel_rfl) (by kernel_rfl) ?hreg61; case' hreg61 => simp only [List.take_succ_cons, List.take_zero, List.zip_cons_cons, List.zip_nil_right, List.drop_succ_cons, List.drop_zero, List.drop_nil])
      (refine' head_val ?dw62 ?de62 ?dr62 ?dh62; (case' dw62 => rfl); (case' de62 => (first | exact fun _ _ _ => trivial | (intro t ht w; cases ht; simp [upE]))); (case' dr62 => (intro w' hw' _; go_simp; with_reducible rfl)); (case' dh62 => (try simp only [Act.put, List.setIfInBounds_toArray, List.set_cons_zero, List.set_cons_succ]))); (refine' head_val ?dw63 ?de63 ?dr63 ?dh63; (case' dw63 => rfl); (case' de63 => (first | exact fun _ _ _ => trivial | (intro t ht w; cases ht; simp [upE]))); (case' dr63 => (intro w' hw' _; go_simp; with_reducible rfl)); (case' dh63 => (try simp only [Act.put, List.setIfInBounds_toArray, List.set_cons_zero, List.set_cons_succ])))
      (refine' head_call ?cw64 ?ce64 ?cr64 ?cc64 ?ch64; (case' cw64 => rfl); (case' ce64 => (first | exact fun _ _ _ => trivial | (intro t ht w; cases ht; simp [upE]))); (case' cr64 => (intro w'; go_simp; first | exact ⟨rfl, rfl⟩ | with_reducible rfl)); (case' cc64 => (intro w' hw' _; exact wLeafText Ap ps.length cp ps w' (RP1.out.grow hw') rfl P32.out HPN.out)); (case' ch64 => (try simp only [Act.put, List.setIfInBounds_toArray, List.set_cons_zero, List.set_cons_succ])))
      (refine' head_loadB rfl ?_ rfl rfl P1.out Tryz.underlying54 rfl rfl ?_; (first | exact fun _ _ _ => trivial | (intro t ht w; cases ht; simp [upE])); try simp only [Act.put, List.setIfInBounds_toArray, List.set_cons_zero, List.set_cons_succ])
      (refine' head_val ?dw65 ?de65 ?dr65 ?dh65; (case' dw65 => rfl); (case' de65 => (first | exact fun _ _ _ => trivial | (intro t ht w; cases ht; simp [upE]))); (case' dr65 => (intro w' hw' _; go_simp; with_reducible rfl)); (case' dh65 => (try simp only [Act.put, List.setIfInBounds_toArray, List.set_cons_zero, List.set_cons_succ]))); (refine' head_val ?dw66 ?de66 ?dr66 ?dh66; (case' dw66 => rfl); (case' de66 => (first | exact fun _ _ _ => trivial | (intro t ht w; cases ht; simp [upE]))); (case' dr66 => (intro w' hw' _; go_simp; with_reducible rfl)); (case' dh66 => (try simp only [Act.put, List.setIfInBounds_toArray, List.set_cons_zero, List.set_cons_succ])))
      (refine' head_load1 (i := 0) (v := (.int .i64 (leaf : Int))) rfl ?_ rfl rfl G1.out rfl Tryz.underlying3 rfl ?_; (first | exact fun _ _ _ => trivial | (intro t ht w; cases ht; simp [upE])); try simp only [Act.put, List.setIfInBounds_toArray, List.set_cons_zero, List.set_cons_succ])
      (refine' head_ids (xs := bp) ?cw67 ?ce67 ?cr67 ?cc67 ?ch67; (case' cw67 => rfl); (case' ce67 => (first | exact fun _ _ _ => trivial | (intro t ht w; cases ht; simp [upE]))); (case' cr67 => (intro w'; go_simp; first | exact ⟨rfl, rfl⟩ | with_reducible rfl)); (case' cc67 => (intro w' hw' hE; first | exact ret_idsAt (HPUB.out w') | exact ret_slAt (HPUB.out w'))); (case' ch67 => (intro A9 c9; try simp only [Act.put, List.setIfInBounds_toArray, List.set_cons_zero, List.set_cons_succ])))
      (refine' head_call ?cw68 ?ce68 ?cr68 ?cc68 ?ch68; (case' cw68 => rfl); (case' ce68 => (first | exact fun _ _ _ => trivial | (intro t ht w; cases ht; simp [upE]))); (case' cr68 => (intro w'; go_simp; first | exact ⟨rfl, rfl⟩ | with_reducible rfl)); (case' cc68 => (intro w' hw' hE; exact HLT.out A9 c9 w' (ids_at (hE 122 (by decide))))); (case' ch68 => (try simp only [Act.put, List.setIfInBounds_toArray, List.set_cons_zero, List.set_cons_succ])))
      (refine' head_val ?dw69 ?de69 ?dr69 ?dh69; (case' dw69 => rfl); (case' de69 => (first | exact fun _ _ _ => trivial | (intro t ht w; cases ht; simp [upE]))); (case' dr69 => (intro w' hw' _; go_simp; with_reducible rfl)); (case' dh69 => (try simp only [Act.put, List.setIfInBounds_toArray, List.set_cons_zero, List.set_cons_succ])))
      (refine' head_ownRow (txC (leafTx ps, leafTx bp)) 2 1 112 rfl ?_ rfl (by decide) ?_; (· intro w; first | (go_simp; done) | (go_simp; first | with_reducible rfl | rfl)); intro g125; try simp only [Act.put, List.setIfInBounds_toArray, List.set_cons_zero, List.set_cons_succ])
      refine head_nil ?_
      intro w13 hb hE
      replace HG := hid (Grow.trans HG.out hb)
      replace P1 := hid (grow_block P1.out hb)
      replace G1 := hid (grow_block G1.out hb)
      replace RP1 := hid (RP1.out.grow hb)
      replace HO := hid (own_grow HO.out hb)
      clear hb
      have HNW := hid (ownRow_at (hE 125))
      clear hE
      have HSZ := hid HG.out.size
      go_wp2_with (first | (refine op_appOwn (n := 1 + l) (m := 1) (B := w5.heap.size) (news := txC (leafTx ps, leafTx bp)) rfl rfl Tryz.underlying110 infoTxZ rfl (by decide) rfl rfl rfl (own_cellsA HNW.out) (fun h => by cases h) (txC_one _) HO.out HSZ.out (by omega) (by omega) ?_) | fail)
      intro v2 wb2 ho2 hg2 _
      have HG2 := hid (show Grow w5 wb2 from Below.trans (show Below w5.heap.size w5 _ from HG.out) ((fr_grown (D := fun k => _) hg2 (fun k hk => .inl hk)).below (fun k hk => (own_lt HO.out hk).1) HSZ.out))
      have HO2 := hid (own_rebase (C := w.heap.size) ho2 (fun q hq => Nat.le_trans HB0.out.size (own_lt ho2 hq).1))
      clear ho2 hg2
      go_wp2_with fail
      go_ret
      refine ⟨_, rfl, ?_, Grow.trans HB0.out HG2.out⟩
      rw [HTW.out]
      unfold OwnTx
      rw [txCells_snoc, List.length_append, List.length_cons, HRL9.out, show l + 1 + [(leafTx ps, leafTx bp)].length = 1 + l + 1 by simp; omega]
      exact HO2.out
end Go.Proofs.YtabkaflccaklhaaGreat
