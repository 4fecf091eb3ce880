/- The reference's Same and Sign of signatures; params that take little time: contracts. -/
import Derived.Test.YtabkaflccaklhaaGreatQSig5
import Derived.Test.YtabkaflccaklhaaGreatQSig3
import Derived.Test.YtabkaflccaklhaaGreatQKeyE
set_option linter.unusedSimpArgs false
set_option linter.unusedVariables false
namespace Go.Proofs.YtabkaflccaklhaaGreat
open Go.RowKit
open Go.Qk hiding rotr b4
set_option maxHeartbeats 1000000
set_option maxRecDepth 100000
/-- A signature that is read. -/
def sigAt (leaf : Int) (xs ys zs : List IdK) (v : Value) (w : World) : Prop :=
  ∃ A1 c1 A2 c2 A3 c3, v = .agg (sigC leaf (.slice A1 xs.length c1) (.slice A2 ys.length c2) (.slice A3 zs.length c3)) ∧ IdRow w A1 xs ∧ IdRow w A2 ys ∧ IdRow w A3 zs
section
variable {ops : Array Oper} {W : World} {Qe : (Tmp → World → Prop) → Act → Prop}
theorem head_sig {o : Oper} {r : List (Oper × (Value → World → Prop))} {E : Tmp → World → Prop} {a : Act} {leaf : Int} {xs ys zs : List IdK} {V : Value → World → Prop} (hV : V = sigAt leaf xs ys zs := by rfl) {f : FuncId} {args : Array Value} (hwant : Region.wanted o (yielded ops a.tmps) = true) (hE : ∀ t, o.dst = some t → ∀ w, E t w)
    (hrun : ∀ w, (execOp a.eval o).run Tryz.prog w = .ok (.enter f args) w) (hc : ∀ w, Grow W w → (∀ t ∈ o.looksAt ops, E t w) → Calls Tryz.prog f args w fun e w' => ∃ v, e = .returned v ∧ sigAt leaf xs ys zs v w' ∧ Below w.heap.size w w')
    (h : ∀ A1 c1 A2 c2 A3 c3, Head Tryz.prog ops W Qe r (upE E o.dst (V (.agg #[.int .i64 leaf, .slice A1 xs.length c1, .slice A2 ys.length c2, .slice A3 zs.length c3]))) (a.put o.dst (.agg #[.int .i64 leaf, .slice A1 xs.length c1, .slice A2 ys.length c2, .slice A3 zs.length c3]))) : Head Tryz.prog ops W Qe ((o, V) :: r) E a := by
  subst hV
  refine head_abs (V := sigAt leaf xs ys zs) hwant ?_ ?_ ?_
  · rintro v w1 w2 ⟨A1, c1, A2, c2, A3, c3, rfl, h1, h2, h3⟩ hg
    exact ⟨A1, c1, A2, c2, A3, c3, rfl, h1.grow hg, h2.grow hg, h3.grow hg⟩
  · intro w1 hw1 hl
    refine does_call (hrun w1) ((hc w1 hw1 hl).mono ?_)
    rintro e w2 ⟨v, rfl, hv, hb⟩
    exact ⟨v, rfl, hb, hv⟩
  · rintro v ⟨_, A1, c1, A2, c2, A3, c3, rfl, _⟩
    exact h A1 c1 A2 c2 A3 c3
theorem sig_at {E : Tmp → World → Prop} {t : Tmp} {leaf : Int} {xs ys zs : List IdK} {A1 A2 A3 : Option Addr} {c1 c2 c3 : Nat} {w : World} (h : upE E (some t) (sigAt leaf xs ys zs (.agg #[.int .i64 leaf, .slice A1 xs.length c1, .slice A2 ys.length c2, .slice A3 zs.length c3])) t w) : IdRow w A1 xs ∧ IdRow w A2 ys ∧ IdRow w A3 zs := by
  unfold upE at h
  rw [if_pos rfl] at h
  obtain ⟨B1, d1, B2, d2, B3, d3, hg, h1, h2, h3⟩ := h
  simp [sigC] at hg
  obtain ⟨⟨e1, _⟩, ⟨e2, _⟩, e3, _⟩ := hg
  subst e1 e2 e3
  exact ⟨h1, h2, h3⟩
end
theorem refSign8 (b h : Nat) (hb : b ≤ 256) (hh : h ≤ 10) (seed : ByteArray) (hs : seed.size ≤ 1000000) (x : Nat) (hx : x < 2 ^ h) (sum : IdK) (hsum : sum.length = 32) (w : World) :
    Calls Tryz.prog 26 #[.agg #[.int .i64 (b : Int), .int .i64 (h : Int)], .string seed, .int .i64 (x : Int), idV sum] w fun e w' => ∃ v, e = .returned v ∧ sigAt x (rowOf (shownG seed x sum) b) (rowOf (hiddenG seed x sum) b) (wayOf seed b h x) v w' ∧ Below w.heap.size w w' := by
  have HS := hid hsum
  have HSI := hid (fun w => refSign seed (x : Int) b sum hsum hs (by omega) w)
  have HWY := hid (fun w => refWay7 seed hs b h hb hh x hx w)
  clear hb hh hx hsum
  go_enter Tryz.func26, Tryz.ntmps26
  have HB := hid (grow_refl w)
  apply wp_seq_k; intro _ _; apply wp_region_lit
  refine op_boxC (cs := #[.int .i64 (b : Int), .int .i64 (h : Int)]) rfl rfl rfl rfl ?_
  intro gp w1 hgl hgu hb hr
  have PL := hid (Nat.le_trans HB.out.size hgl)
  replace HB := hid (Grow.trans HB.out hb)
  have P := hid hr; have PU := hid hgu
  clear hr hgl hgu hb
  try simp only [Act.put, List.setIfInBounds_toArray, List.set_cons_zero, List.set_cons_succ]
  refine op_box (l := sum) rfl rfl rfl ?_
  intro gs w2 hgl hgu hb hr
  have SL := hid (Nat.le_trans HB.out.size hgl)
  replace HB := hid (Grow.trans HB.out hb)
  replace P := hid (grow_block P.out hb)
  have S := hid hr; have SU := hid hgu
  clear hr hgl hgu hb
  try simp only [Act.put, List.setIfInBounds_toArray, List.set_cons_zero, List.set_cons_succ]
  refine op_allocC (z := undef) (cs := nilSig) rfl rfl (fun w => by kernel_rfl) ?_
  intro gr wr hgl hgu hb hr
  have HRL := hid (Nat.le_trans HB.out.size hgl)
  replace HB := hid (Grow.trans HB.out hb)
  replace P := hid (grow_block P.out hb)
  replace S := hid (grow_block S.out hb)
  clear hb
  have HR := hid hr
  clear hr hgl hgu
  try simp only [Act.put, List.setIfInBounds_toArray, List.set_cons_zero, List.set_cons_succ]
  refine wpList_nil ?_
  go_wp2_with (first | (refine opG_loadB rfl rfl rfl P.out Tryz.underlying54 rfl rfl ?_) | (refine opG_load1 rfl rfl rfl P.out rfl Tryz.underlying3 rfl ?_) | (refine op_loadId rfl rfl rfl S.out (HS.out) ?_) |  fail)
  have HR0 := HR
  refine (HSI.out _).mono ?_
  rintro e w5 ⟨v, u, rfl, ho, hu, hb⟩
  replace HB := hid (Grow.trans HB.out hb)
  replace P := hid (grow_block P.out hb)
  replace S := hid (grow_block S.out hb)
  replace HR := hid (grow_block HR.out hb)
  clear hb
  obtain ⟨⟨A1, c1, rfl, r1⟩, _⟩ := ho.sl
  obtain ⟨⟨A2, c2, rfl, r2⟩, _⟩ := hu.sl
  have O1 := hid ho
  have O2 := hid hu
  clear ho hu r1 r2
  go_wp2_with (first | (refine opG_loadB rfl rfl rfl P.out Tryz.underlying54 rfl rfl ?_) | (refine opG_load1 rfl rfl rfl P.out rfl Tryz.underlying3 rfl ?_) | (refine op_loadId rfl rfl rfl S.out (HS.out) ?_) |  fail)
  refine (HWY.out _).mono ?_
  rintro e w6 ⟨v, rfl, ho, hb⟩
  have HRLT := hid (blk_lt HR.out)
  replace HB := hid (Grow.trans HB.out hb)
  replace P := hid (grow_block P.out hb)
  replace S := hid (grow_block S.out hb)
  replace HR := hid (grow_block HR.out hb)
  replace O1 := hid (O1.out.grow hb)
  replace O2 := hid (O2.out.grow hb)
  clear hb
  obtain ⟨⟨A3, c3, rfl, r3⟩, _⟩ := ho.sl
  have O3 := hid ho
  clear ho r3
  have HBD := hid (show ∀ w, (Instr.build 58 #[(0, .int .i64 (x : Int)), (1, .slice A1 (rowOf (shownG seed x sum) b).length c1), (2, .slice A2 (rowOf (hiddenG seed x sum) b).length c2), (3, .slice A3 (wayOf seed b h x).length c3)]).run Tryz.prog w = .ok (.agg (sigC x (.slice A1 (rowOf (shownG seed x sum) b).length c1) (.slice A2 (rowOf (hiddenG seed x sum) b).length c2) (.slice A3 (wayOf seed b h x).length c3))) w from fun w => run_build w _ _ _ (by kernel_rfl))
  go_wp2_with (first | (refine opG_build (ps := #[(0, .int .i64 (x : Int)), (1, .slice A1 (rowOf (shownG seed x sum) b).length c1), (2, .slice A2 (rowOf (hiddenG seed x sum) b).length c2), (3, .slice A3 (wayOf seed b h x).length c3)]) rfl rfl (by simp only [List.map_toArray, List.map_cons, List.map_nil]; rfl) HBD.out ?_) | (refine store_block 58 _ _ gr 0 (sigC x (.slice A1 (rowOf (shownG seed x sum) b).length c1) (.slice A2 (rowOf (hiddenG seed x sum) b).length c2) (.slice A3 (wayOf seed b h x).length c3)).toList nilSig.toList (sigC x (.slice A1 (rowOf (shownG seed x sum) b).length c1) (.slice A2 (rowOf (hiddenG seed x sum) b).length c2) (.slice A3 (wayOf seed b h x).length c3)).toList 58 rfl rfl rfl rfl rfl (by simpa using HR.out) (by rw [infoSig]; rfl) (by simp [nilSig, sigC]) sig_one (by simp [nilSig, sigC]) ?_))
  intro wz hz hgb hbz
  have HZ := hid (by simpa using hz : wz.heap[gr]? = some (.cells (sigC x (.slice A1 (rowOf (shownG seed x sum) b).length c1) (.slice A2 (rowOf (hiddenG seed x sum) b).length c2) (.slice A3 (wayOf seed b h x).length c3)) 58 (0, 0)))
  have HBZ := hid (hbz _ _ HB.out HRL.out)
  have O1 := hid (own_keep O1.out hgb (Nat.lt_of_lt_of_le (blk_lt HR0.out) (Nat.le_refl _)))
  have O2 := hid (own_keep O2.out hgb (Nat.lt_of_lt_of_le (blk_lt HR0.out) (Nat.le_refl _)))
  have O3 := hid (own_keep O3.out hgb HRLT.out)
  clear hz hgb hbz HBD
  go_wp2_with fail
  refine bodyPost_ret (results_cell_row rfl _ _ gr _ _ _ _ rfl HZ.out Tryz.underlying58 rfl (by rw [infoSig]; rfl)) rfl ?_
  obtain ⟨⟨_, _, e1, r1⟩, _⟩ := O1.out.sl
  obtain ⟨⟨_, _, e2, r2⟩, _⟩ := O2.out.sl
  obtain ⟨⟨_, _, e3, r3⟩, _⟩ := O3.out.sl
  injection e1 with e1
  injection e2 with e2
  injection e3 with e3
  subst e1 e2 e3
  exact ⟨_, rfl, ⟨_, _, _, _, _, _, rfl, r1, r2, r3⟩, HBZ.out⟩
end Go.Proofs.YtabkaflccaklhaaGreat
