/- signer.Signer's Sign: contracts. -/
import Derived.Test.YtabkaflccaklhaaQSig1
set_option linter.unusedSimpArgs false
set_option linter.unusedVariables false
namespace Go.Proofs.Ytabkaflccaklhaa
open Go.RowKit
open Go.Qk hiding rotr b4
set_option maxHeartbeats 1000000
set_option maxRecDepth 100000
theorem grownBy_new {a b c : World} {row : Option Nat} {k : Nat} (h : a.grownBy b row) (hg : b.grownBy c (some k)) (hk : a.heap.size ≤ k) : a.grownBy c row :=
  ⟨hg.os.trans h.os, hg.tape.trans h.tape, hg.output.trans h.output, Nat.le_trans h.size hg.size, fun i hi hr => by
    rw [hg.block i (Nat.lt_of_lt_of_le hi h.size) (by intro e; injection e with e; omega)]
    exact h.block i hi hr⟩
def sigC (leaf : Int) (v1 v2 v3 : Value) : Array Value := #[.int .i64 leaf, v1, v2, v3]
def nilSig : Array Value := #[.int .i64 0, .slice none 0 0, .slice none 0 0, .slice none 0 0]
theorem nilSig_one : ∀ v ∈ nilSig.toList, v.oneCell' = true := by
  intro v hv
  simp [nilSig] at hv
  rcases hv with rfl | rfl <;> rfl
theorem sigNew_one (x : Int) : ∀ v ∈ (sigC x (.slice none 0 0) (.slice none 0 0) (.slice none 0 0)).toList, v.oneCell' = true := by
  intro v hv
  simp [sigC] at hv
  rcases hv with rfl | rfl <;> rfl
theorem infoSig : (Try.prog.info? 49).map (·.size) = some 4 := by kernel_rfl
theorem ret_sig {fn : Func} {p u : Tmp} {tmps : Array Value} {w : World} {g : Nat} {cs : Array Value} {t : TypeId} {fr : Nat × Nat} (h : fn.results = #[.cell p 49, .tmp u]) (hp : tmps.getD p undef = .pointer (some ⟨g, 0, none⟩)) (hg : w.heap[g]? = some (.cells cs t fr)) (hl : cs.size = 4) :
    (results fn tmps).run Try.prog w = .ok (.tuple #[.agg cs, tmps.getD u undef]) w :=
  results_row_tmp h _ _ g _ _ fr _ hp hg Try.underlying49 rfl (by rw [infoSig, hl])
theorem sgSign_spent (g : Nat) (b h : Nat) (seed : ByteArray) (key : IdK) (n : Nat) (sum : IdK) (hs : sum.length = 32) (hn : n = if ktB b h then 2 ^ h else 0) (hn2 : n ≤ 1024) (hk : key.length = 32) (w : World) (hg : IsSg w g b h seed key (n : Int)) :
    Calls Try.prog 73 #[.pointer (some ⟨g, 0, none⟩), idV sum] w fun e w' => e = .returned (.tuple #[.agg nilSig, .int .i64 8]) ∧ Below w.heap.size w w' := by
  have HG := hid hg
  have HLE := hid (fun w (hg : IsSg w g b h seed key (n : Int)) => sgLeft g b h seed key n n hn (Nat.le_refl _) hn2 hk w hg)
  have hb0 := hid (show ∀ w, (Instr.build 49 #[]).run Try.prog w = .ok (.agg nilSig) w from fun w => run_build w _ _ _ (by kernel_rfl))
  rw [Nat.sub_self] at HLE
  clear hg hn hn2 hk
  go_enter Try.func73, Try.ntmps73
  have HB := hid (grow_refl w)
  apply wp_seq_k; intro _ _; apply wp_region_lit
  refine op_box (l := sum) rfl rfl rfl ?_
  intro gs w1 hgl hgu hb hr
  have SL := hid (Nat.le_trans HB.out.size hgl)
  replace HB := hid (Grow.trans HB.out hb)
  replace HG := hid (grow_block HG.out hb)
  have S := hid hr; have SU := hid hgu
  clear hr hgl hgu hb
  try simp only [Act.put, List.setIfInBounds_toArray, List.set_cons_zero, List.set_cons_succ]
  refine op_allocC (z := undef) (cs := nilSig) rfl rfl (fun w => by kernel_rfl) ?_
  intro gr wr hgl hgu hb hr
  have HRL := hid (Nat.le_trans HB.out.size hgl)
  replace HB := hid (Grow.trans HB.out hb)
  replace HG := hid (grow_block HG.out hb)
  replace S := hid (grow_block S.out hb)
  clear hb
  have HR := hid hr
  clear hr hgl hgu
  go_wp2_with fail
  refine (HLE.out _ HG.out).mono ?_
  rintro e w2 ⟨rfl, hb⟩
  replace HB := hid (Grow.trans HB.out hb)
  replace HG := hid (grow_block HG.out hb)
  replace S := hid (grow_block S.out hb)
  replace HR := hid (grow_block HR.out hb)
  clear hb
  go_wp2_with (first | (refine opG_build (ps := #[]) rfl rfl (by simp) hb0.out ?_) | (refine store_block 49 _ _ gr 0 nilSig.toList nilSig.toList nilSig.toList 49 rfl rfl rfl rfl rfl (by simpa using HR.out) (by rw [infoSig]; rfl) (by simp [nilSig]) nilSig_one (by simp [nilSig]) ?_))
  intro wz hz _ hbz
  have HZ := hid hz
  have HBZ := hid (hbz _ _ HB.out HRL.out)
  clear hz hbz hb0
  go_wp2_with fail
  refine bodyPost_ret (ret_sig rfl rfl HZ.out (by simp [nilSig])) rfl ⟨?_, HBZ.out⟩
  rfl
def RetSigned (g : Nat) (B : Nat) (leaf : Int) (xs ys zs : List IdK) (P : World → Prop) (w : World) (e : Ending) (w' : World) : Prop :=
  ∃ v1 v2 v3, e = .returned (.tuple #[.agg (sigC leaf v1 v2 v3), .int .i64 0]) ∧ OwnIds 25 B w' v1 xs ∧ OwnIds 25 B w' v2 ys ∧ OwnIds 25 B w' v3 zs ∧ P w' ∧ w.grownBy w' (some g)
theorem own_keep {B g : Nat} {w w' : World} {v : Value} {xs : List IdK} (h : OwnIds 25 B w v xs) (hg : w.grownBy w' (some g)) (hlt : g < B) : OwnIds 25 B w' v xs :=
  own_store h hg (fun e => by have := (h.1.lt g e).1; omega)
/-- What the regions' loads lean on. -/
def SgS (g g6 gs : Nat) (b h : Int) (seed : ByteArray) (key : IdK) (next leaf : Int) (sum : IdK) (w : World) : Prop :=
  IsSg w g b h seed key next ∧ (∃ v1 v2 v3, w.heap[g6]? = some (.cells (sigC leaf v1 v2 v3) 49 (0, 0))) ∧ w.heap[gs]? = some (.cells (u8s sum).toArray 25 (0, 0))
theorem SgS.grow {g g6 gs : Nat} {b h : Int} {seed : ByteArray} {key : IdK} {next leaf : Int} {sum : IdK} {w w' : World} (h1 : SgS g g6 gs b h seed key next leaf sum w) (hg : Grow w w') : SgS g g6 gs b h seed key next leaf sum w' := by
  obtain ⟨a, ⟨v1, v2, v3, c⟩, d⟩ := h1
  exact ⟨grow_block a hg, ⟨v1, v2, v3, grow_block c hg⟩, grow_block d hg⟩
theorem SgS.leaf {g g6 gs : Nat} {b h : Int} {seed : ByteArray} {key : IdK} {next leaf : Int} {sum : IdK} {w : World} (h1 : SgS g g6 gs b h seed key next leaf sum w) : w.cell? ⟨g6, 0, none⟩ = some (.int .i64 leaf) := by
  obtain ⟨a, ⟨v1, v2, v3, c⟩, d⟩ := h1
  exact blk_cell c rfl
theorem sgSign (g : Nat) (b h : Nat) (seed : ByteArray) (hs : seed.size ≤ 1000000) (key : IdK) (x n : Nat) (sum : IdK) (hsum : sum.length = 32) (hk : ktB b h = true) (hn : n = 2 ^ h) (hx : x < n) (hkl : key.length = 32) (w : World) (hg : IsSg w g b h seed key (x : Int)) :
    Calls Try.prog 73 #[.pointer (some ⟨g, 0, none⟩), idV sum] w (RetSigned g w.heap.size x (rowOf (shownG seed x sum) b) (rowOf (hiddenG seed x sum) b) (wayOf seed b h x) (fun w' => IsSg w' g b h seed key ((x + 1 : Nat) : Int)) w) := by
  obtain ⟨q1, q2, q3, q4⟩ := kt_bounds hk
  have hnn : 2 ^ h ≤ 2 ^ 10 := Nat.pow_le_pow_right (by omega) (by omega)
  have hrb : rightB (b : Int) = true := by simp only [ktB, Bool.and_eq_true] at hk; exact hk.1
  have HG := hid hg
  have HKL := hid hkl
  have HSL := hid hsum
  have HLE := hid (fun w (hg : IsSg w g b h seed key (x : Int)) => sgLeft g b h seed key x n (by rw [hk, hn]; simp) (by omega) (by omega) hkl w hg)
  have HSI := hid (fun w => lamSign seed (x : Int) b sum hsum hs (by omega) (by omega) hrb (by omega) w)
  have HWY := hid (fun w => ktWay seed hs b h x hk (by omega) w)
  have hb1 := hid (show ∀ w, (Instr.build 49 #[(0, .int .i64 (x : Int))]).run Try.prog w = .ok (.agg (sigC x (.slice none 0 0) (.slice none 0 0) (.slice none 0 0))) w from fun w => run_build w _ _ _ (by kernel_rfl))
  have x1 : (x : Int) ≤ 1024 := by omega
  have x0 : (0 : Int) ≤ (x : Int) := by omega
  obtain ⟨y, hy⟩ : ∃ y, y = x + 1 := ⟨_, rfl⟩
  have hx1 : (x : Int) + 1 = (y : Int) := by omega
  rw [← hy]
  obtain ⟨z, hz0⟩ : ∃ z, z = n - x := ⟨_, rfl⟩
  have t0 : ((z : Int) == 0) = false := by simp; omega
  rw [← hz0] at HLE
  have HGW := hid (blk_lt hg)
  clear hg hkl hsum hn hx hk q1 q2 q3 q4 hnn hrb hy hz0
  go_enter Try.func73, Try.ntmps73
  have HB := hid (grow_refl w)
  apply wp_seq_k; intro _ _; apply wp_region_lit
  refine op_box (l := sum) rfl rfl rfl ?_
  intro gs w1 hgl hgu hb hr
  have SL := hid (Nat.le_trans HB.out.size hgl)
  replace HB := hid (Grow.trans HB.out hb)
  replace HG := hid (grow_block HG.out hb)
  have S := hid hr; have SU := hid hgu
  clear hr hgl hgu hb
  try simp only [Act.put, List.setIfInBounds_toArray, List.set_cons_zero, List.set_cons_succ]
  refine op_allocC (z := undef) (cs := nilSig) rfl rfl (fun w => by kernel_rfl) ?_
  intro gr wr hgl hgu hb hr
  have HRL := hid (Nat.le_trans HB.out.size hgl)
  have HSR := hid (show gs ≠ gr by have := SU.out; omega)
  replace HB := hid (Grow.trans HB.out hb)
  replace HG := hid (grow_block HG.out hb)
  replace S := hid (grow_block S.out hb)
  clear hb
  have HR := hid hr
  clear hr hgl hgu
  go_wp2_with fail
  refine (HLE.out _ HG.out).mono ?_
  rintro e w2 ⟨rfl, hb⟩
  replace HB := hid (Grow.trans HB.out hb)
  replace HG := hid (grow_block HG.out hb)
  replace S := hid (grow_block S.out hb)
  replace HR := hid (grow_block HR.out hb)
  clear hb
  go_wp2_with (first | (refine opG_loadCell rfl rfl rfl (sg_next HG.out HKL.out) Try.underlying3 rfl ?_) | (refine opG_build (ps := #[(0, .int .i64 (x : Int))]) rfl rfl (by simp only [List.map_toArray, List.map_cons, List.map_nil]; rfl) hb1.out ?_) | (refine op_allocC (z := undef) (cs := nilSig) rfl rfl (fun w => by kernel_rfl) ?_))
  intro g6 w6 hgl hgu hb hr
  have G6L := hid (Nat.le_trans HB.out.size hgl)
  have SLT := hid (show gs ≠ g6 by have := blk_lt S.out; omega)
  have RLT := hid (show gr ≠ g6 by have := blk_lt HR.out; omega)
  replace HB := hid (Grow.trans HB.out hb)
  replace HG := hid (grow_block HG.out hb)
  replace S := hid (grow_block S.out hb)
  replace HR := hid (grow_block HR.out hb)
  clear hb
  have L6 := hid hr
  clear hr hgl hgu
  go_wp2_with (refine store_block 49 _ _ g6 0 (sigC x (.slice none 0 0) (.slice none 0 0) (.slice none 0 0)).toList nilSig.toList (sigC x (.slice none 0 0) (.slice none 0 0) (.slice none 0 0)).toList 49 rfl rfl rfl rfl rfl (by simpa using L6.out) (by rw [infoSig]; rfl) (by simp [nilSig, sigC]) (sigNew_one _) (by simp [nilSig, sigC]) ?_)
  intro w7 hz hgb hbl
  have L6 := hid hz
  have HG := hid (blk_other hgb HG.out (by have := HGW.out; have := G6L.out; omega))
  have S := hid (blk_other hgb S.out SLT.out)
  have HR := hid (blk_other hgb HR.out RLT.out)
  have HB := hid (hbl _ _ HB.out G6L.out)
  clear hz hgb hbl
  have L6 := hid (by simpa using L6.out : w7.heap[g6]? = some (.cells (sigC x (.slice none 0 0) (.slice none 0 0) (.slice none 0 0)) 49 (0, 0)))
  have c35 := sg_next HG.out HKL.out
  go_wp2_with (refine op_store1 (v := .int .i64 (y : Int)) rfl rfl rfl rfl rfl HG.out rfl rfl rfl (by rw [List.size_toArray, sgC_length _ _ _ _ _ HKL.out]; omega) ?_)
  intro w8 hz hgb _
  rw [sgC_set _ _ _ _ _ _ HKL.out] at hz
  have HGX := hid hz
  have L6 := hid (blk_other hgb L6.out (by have := HGW.out; have := G6L.out; omega))
  have S := hid (blk_other hgb S.out (by have := HGW.out; have := SL.out; omega))
  have HR := hid (blk_other hgb HR.out (by have := HGW.out; have := HRL.out; omega))
  have U := hid (grownBy_trans (grownBy_grow HB.out (some g)) hgb)
  have HG := HGX
  have SS := hid (show SgS g g6 gs b h seed key (y : Int) x sum w8 from ⟨HG.out, ⟨_, _, _, L6.out⟩, S.out⟩)
  clear hz hgb HGX c35 HB
  go_wp2_with fail
  refine wp_region_pickH (SgS g g6 gs b h seed key (y : Int) x sum) [0, 1, 2, 3, 4, 5, 6, 7, 8, 9, 10, 11] 9 rfl (by kernel_rfl) rfl (by kernel_rfl) (SS.out.grow (grow_drawn _)) ?_
  (refine' pickH_val ?po1 ?pw1 ?pr1 ?pq1 ?ph1; (case' po1 => exact rfl); (case' pw1 => rfl); (case' pq1 => (exact fun _ _ _ h => h)); (case' pr1 => (intro w' hw'; go_simp; with_reducible rfl)); (case' ph1 => (try simp only [List.getElem_toArray, List.getElem_cons_zero, List.getElem_cons_succ, Act.put, List.setIfInBounds_toArray, List.set_cons_zero, List.set_cons_succ]))); (refine' pickH_val ?po2 ?pw2 ?pr2 ?pq2 ?ph2; (case' po2 => exact rfl); (case' pw2 => rfl); (case' pq2 => (exact fun _ _ _ h => h)); (case' pr2 => (intro w' hw'; go_simp; with_reducible rfl)); (case' ph2 => (try simp only [List.getElem_toArray, List.getElem_cons_zero, List.getElem_cons_succ, Act.put, List.setIfInBounds_toArray, List.set_cons_zero, List.set_cons_succ]))); (refine' pickH_val ?po3 ?pw3 ?pr3 ?pq3 ?ph3; (case' po3 => exact rfl); (case' pw3 => rfl); (case' pq3 => (exact fun _ _ _ h => h)); (case' pr3 => (intro w' hw'; go_simp; with_reducible rfl)); (case' ph3 => (try simp only [List.getElem_toArray, List.getElem_cons_zero, List.getElem_cons_succ, Act.put, List.setIfInBounds_toArray, List.set_cons_zero, List.set_cons_succ])))
  (refine' pickH_val (v := (.string seed)) ?po4 ?pw4 ?pr4 ?pq4 ?ph4; (case' po4 => exact rfl); (case' pw4 => rfl); (case' pq4 => (exact fun _ _ _ h => h)); (case' pr4 => (intro w' hw'; exact run_opLoad1 rfl rfl (sg_seed hw'.1) Try.underlying9 rfl)); (case' ph4 => (try simp only [List.getElem_toArray, List.getElem_cons_zero, List.getElem_cons_succ, Act.put, List.setIfInBounds_toArray, List.set_cons_zero, List.set_cons_succ])))
  (refine' pickH_val ?po5 ?pw5 ?pr5 ?pq5 ?ph5; (case' po5 => exact rfl); (case' pw5 => rfl); (case' pq5 => (exact fun _ _ _ h => h)); (case' pr5 => (intro w' hw'; go_simp; with_reducible rfl)); (case' ph5 => (try simp only [List.getElem_toArray, List.getElem_cons_zero, List.getElem_cons_succ, Act.put, List.setIfInBounds_toArray, List.set_cons_zero, List.set_cons_succ])))
  (refine' pickH_val (v := (.int .i64 (x : Int))) ?po6 ?pw6 ?pr6 ?pq6 ?ph6; (case' po6 => exact rfl); (case' pw6 => rfl); (case' pq6 => (exact fun _ _ _ h => h)); (case' pr6 => (intro w' hw'; exact run_opLoad1 rfl rfl hw'.leaf Try.underlying3 rfl)); (case' ph6 => (try simp only [List.getElem_toArray, List.getElem_cons_zero, List.getElem_cons_succ, Act.put, List.setIfInBounds_toArray, List.set_cons_zero, List.set_cons_succ])))
  (refine' pickH_val ?po7 ?pw7 ?pr7 ?pq7 ?ph7; (case' po7 => exact rfl); (case' pw7 => rfl); (case' pq7 => (exact fun _ _ _ h => h)); (case' pr7 => (intro w' hw'; go_simp; with_reducible rfl)); (case' ph7 => (try simp only [List.getElem_toArray, List.getElem_cons_zero, List.getElem_cons_succ, Act.put, List.setIfInBounds_toArray, List.set_cons_zero, List.set_cons_succ]))); (refine' pickH_val ?po8 ?pw8 ?pr8 ?pq8 ?ph8; (case' po8 => exact rfl); (case' pw8 => rfl); (case' pq8 => (exact fun _ _ _ h => h)); (case' pr8 => (intro w' hw'; go_simp; with_reducible rfl)); (case' ph8 => (try simp only [List.getElem_toArray, List.getElem_cons_zero, List.getElem_cons_succ, Act.put, List.setIfInBounds_toArray, List.set_cons_zero, List.set_cons_succ]))); (refine' pickH_val ?po9 ?pw9 ?pr9 ?pq9 ?ph9; (case' po9 => exact rfl); (case' pw9 => rfl); (case' pq9 => (exact fun _ _ _ h => h)); (case' pr9 => (intro w' hw'; go_simp; with_reducible rfl)); (case' ph9 => (try simp only [List.getElem_toArray, List.getElem_cons_zero, List.getElem_cons_succ, Act.put, List.setIfInBounds_toArray, List.set_cons_zero, List.set_cons_succ]))); (refine' pickH_val ?po10 ?pw10 ?pr10 ?pq10 ?ph10; (case' po10 => exact rfl); (case' pw10 => rfl); (case' pq10 => (exact fun _ _ _ h => h)); (case' pr10 => (intro w' hw'; go_simp; with_reducible rfl)); (case' ph10 => (try simp only [List.getElem_toArray, List.getElem_cons_zero, List.getElem_cons_succ, Act.put, List.setIfInBounds_toArray, List.set_cons_zero, List.set_cons_succ])))
  (refine' pickH_val (v := (.int .i64 (b : Int))) ?po11 ?pw11 ?pr11 ?pq11 ?ph11; (case' po11 => exact rfl); (case' pw11 => rfl); (case' pq11 => (exact fun _ _ _ h => h)); (case' pr11 => (intro w' hw'; exact run_opLoad1 rfl rfl (sg_bits hw'.1) Try.underlying3 rfl)); (case' ph11 => (try simp only [List.getElem_toArray, List.getElem_cons_zero, List.getElem_cons_succ, Act.put, List.setIfInBounds_toArray, List.set_cons_zero, List.set_cons_succ])))
  (refine' pickH_val (v := (idV sum)) ?po12 ?pw12 ?pr12 ?pq12 ?ph12; (case' po12 => exact rfl); (case' pw12 => rfl); (case' pq12 => (exact fun _ _ _ h => h)); (case' pr12 => (intro w' hw'; exact run_opLoadAt rfl rfl (cells_block (tl := []) (by rw [List.append_nil]; exact hw'.2.2)) HSL.out)); (case' ph12 => (try simp only [List.getElem_toArray, List.getElem_cons_zero, List.getElem_cons_succ, Act.put, List.setIfInBounds_toArray, List.set_cons_zero, List.set_cons_succ])))
  have hb := grow_drawn w8
  replace SS := hid (SS.out.grow hb)
  replace HG := hid (grow_block HG.out hb)
  replace S := hid (grow_block S.out hb)
  replace HR := hid (grow_block HR.out hb)
  replace L6 := hid (grow_block L6.out hb)
  replace U := hid (grownBy_trans U.out (grownBy_grow hb (some g)))
  clear hb
  generalize ({ w8 with drawn := w8.drawn + 1 } : World) = w9 at *
  refine pickH_nil ?_
  have B9 := hid (blk_lt L6.out)
  have R9 := hid (blk_lt HR.out)
  have Z9 := hid U.out.size
  refine one_call (c := 12) (n := 8) (f := 132) (args := #[.string seed, .int .i64 (x : Int), .int .i64 (b : Int), idV sum]) (by kernel_rfl) rfl rfl ?hrun (HSI.out w9) (fun e w' ⟨v, u, he, _⟩ => ⟨_, he⟩) ?_
  case hrun => go_simp
  rintro v w10 ⟨v1, v2, he, ho1, ho2, hb⟩
  obtain rfl : v = .tuple #[v1, v2, .int .i64 0] := (by injection he)
  replace SS := hid (SS.out.grow hb)
  replace HG := hid (grow_block HG.out hb)
  replace S := hid (grow_block S.out hb)
  replace HR := hid (grow_block HR.out hb)
  replace L6 := hid (grow_block L6.out hb)
  replace U := hid (grownBy_trans U.out (grownBy_grow hb (some g)))
  clear hb
  obtain ⟨⟨A1, c1, rfl, _⟩, _⟩ := ho1.sl
  obtain ⟨⟨A2, c2, rfl, _⟩, _⟩ := ho2.sl
  have O1 := hid ho1
  have O2 := hid ho2
  clear he ho1 ho2
  refine ⟨SS.out, ?_⟩
  refine pickH_any (n := 3) (by kernel_rfl) [13, 14, 15, 16, 17] _ _ _ (by kernel_rfl) (SS.out) ?_
  (refine' pickH_val ?po13 ?pw13 ?pr13 ?pq13 ?ph13; (case' po13 => exact rfl); (case' pw13 => rfl); (case' pq13 => (exact fun _ _ _ h => h)); (case' pr13 => (intro w' hw'; go_simp; with_reducible rfl)); (case' ph13 => (try simp only [List.getElem_toArray, List.getElem_cons_zero, List.getElem_cons_succ, Act.put, List.setIfInBounds_toArray, List.set_cons_zero, List.set_cons_succ]))); (refine' pickH_val ?po14 ?pw14 ?pr14 ?pq14 ?ph14; (case' po14 => exact rfl); (case' pw14 => rfl); (case' pq14 => (exact fun _ _ _ h => h)); (case' pr14 => (intro w' hw'; go_simp; with_reducible rfl)); (case' ph14 => (try simp only [List.getElem_toArray, List.getElem_cons_zero, List.getElem_cons_succ, Act.put, List.setIfInBounds_toArray, List.set_cons_zero, List.set_cons_succ]))); (refine' pickH_val ?po15 ?pw15 ?pr15 ?pq15 ?ph15; (case' po15 => exact rfl); (case' pw15 => rfl); (case' pq15 => (exact fun _ _ _ h => h)); (case' pr15 => (intro w' hw'; go_simp; with_reducible rfl)); (case' ph15 => (try simp only [List.getElem_toArray, List.getElem_cons_zero, List.getElem_cons_succ, Act.put, List.setIfInBounds_toArray, List.set_cons_zero, List.set_cons_succ]))); (refine' pickH_val ?po16 ?pw16 ?pr16 ?pq16 ?ph16; (case' po16 => exact rfl); (case' pw16 => rfl); (case' pq16 => (exact fun _ _ _ h => h)); (case' pr16 => (intro w' hw'; go_simp; with_reducible rfl)); (case' ph16 => (try simp only [List.getElem_toArray, List.getElem_cons_zero, List.getElem_cons_succ, Act.put, List.setIfInBounds_toArray, List.set_cons_zero, List.set_cons_succ]))); (refine' pickH_val ?po17 ?pw17 ?pr17 ?pq17 ?ph17; (case' po17 => exact rfl); (case' pw17 => rfl); (case' pq17 => (exact fun _ _ _ h => h)); (case' pr17 => (intro w' hw'; go_simp; with_reducible rfl)); (case' ph17 => (try simp only [List.getElem_toArray, List.getElem_cons_zero, List.getElem_cons_succ, Act.put, List.setIfInBounds_toArray, List.set_cons_zero, List.set_cons_succ])))
  refine pickH_nil ?_
  refine one_does (c := 18) (n := 2) (V := Wrote1 g6 (sigC x (.slice A1 (rowOf (shownG seed x sum) b).length c1) (.slice none 0 0) (.slice none 0 0)) 49 _) (by kernel_rfl) rfl rfl (does_store1 (i := 1) (cs := sigC x (.slice none 0 0) (.slice none 0 0) (.slice none 0 0)) (v := (.slice A1 (rowOf (shownG seed x sum) b).length c1)) rfl rfl rfl L6.out rfl rfl (by kernel_rfl) (by simp [sigC])) ?_
  rintro _ w11 ⟨hz, hgb, _⟩
  have L6 := hid hz
  have HG := hid (blk_other hgb HG.out (by have := HGW.out; have := G6L.out; omega))
  have S := hid (blk_other hgb S.out SLT.out)
  have HR := hid (blk_other hgb HR.out RLT.out)
  have U := hid (grownBy_new U.out hgb G6L.out)
  have O1 := hid (own_keep O1.out hgb B9.out)
  have O2 := hid (own_keep O2.out hgb B9.out)
  have SS := hid (show SgS g g6 gs b h seed key (y : Int) x sum _ from ⟨HG.out, ⟨_, _, _, L6.out⟩, S.out⟩)
  clear hz hgb
  refine ⟨SS.out, ?_⟩
  refine pickH_any (n := 1) (by kernel_rfl) [19] _ _ _ (by kernel_rfl) (SS.out) ?_
  (refine' pickH_val ?po18 ?pw18 ?pr18 ?pq18 ?ph18; (case' po18 => exact rfl); (case' pw18 => rfl); (case' pq18 => (exact fun _ _ _ h => h)); (case' pr18 => (intro w' hw'; go_simp; with_reducible rfl)); (case' ph18 => (try simp only [List.getElem_toArray, List.getElem_cons_zero, List.getElem_cons_succ, Act.put, List.setIfInBounds_toArray, List.set_cons_zero, List.set_cons_succ])))
  refine pickH_nil ?_
  refine one_does (c := 20) (n := 0) (V := Wrote1 g6 (sigC x (.slice A1 (rowOf (shownG seed x sum) b).length c1) (.slice A2 (rowOf (hiddenG seed x sum) b).length c2) (.slice none 0 0)) 49 _) (by kernel_rfl) rfl rfl (does_store1 (i := 2) (cs := sigC x (.slice A1 (rowOf (shownG seed x sum) b).length c1) (.slice none 0 0) (.slice none 0 0)) (v := (.slice A2 (rowOf (hiddenG seed x sum) b).length c2)) rfl rfl rfl L6.out rfl rfl (by kernel_rfl) (by simp [sigC])) ?_
  rintro _ w12 ⟨hz, hgb, _⟩
  have L6 := hid hz
  have HG := hid (blk_other hgb HG.out (by have := HGW.out; have := G6L.out; omega))
  have S := hid (blk_other hgb S.out SLT.out)
  have HR := hid (blk_other hgb HR.out RLT.out)
  have U := hid (grownBy_new U.out hgb G6L.out)
  have O1 := hid (own_keep O1.out hgb B9.out)
  have O2 := hid (own_keep O2.out hgb B9.out)
  have SS := hid (show SgS g g6 gs b h seed key (y : Int) x sum _ from ⟨HG.out, ⟨_, _, _, L6.out⟩, S.out⟩)
  clear hz hgb
  refine ⟨SS.out, ?_⟩
  refine wpAnyH_done (by kernel_rfl) ?_ _
  simp only [Act.put, List.setIfInBounds_toArray, List.set_cons_zero, List.set_cons_succ]
  go_wp2_with fail
  refine wp_region_pickH (SgS g g6 gs b h seed key (y : Int) x sum) [0, 1, 2, 3, 4, 5, 6, 7, 8, 9] 6 rfl (by kernel_rfl) rfl (by kernel_rfl) (SS.out.grow (grow_drawn _)) ?_
  (refine' pickH_val ?po19 ?pw19 ?pr19 ?pq19 ?ph19; (case' po19 => exact rfl); (case' pw19 => rfl); (case' pq19 => (exact fun _ _ _ h => h)); (case' pr19 => (intro w' hw'; go_simp; with_reducible rfl)); (case' ph19 => (try simp only [List.getElem_toArray, List.getElem_cons_zero, List.getElem_cons_succ, Act.put, List.setIfInBounds_toArray, List.set_cons_zero, List.set_cons_succ]))); (refine' pickH_val ?po20 ?pw20 ?pr20 ?pq20 ?ph20; (case' po20 => exact rfl); (case' pw20 => rfl); (case' pq20 => (exact fun _ _ _ h => h)); (case' pr20 => (intro w' hw'; go_simp; with_reducible rfl)); (case' ph20 => (try simp only [List.getElem_toArray, List.getElem_cons_zero, List.getElem_cons_succ, Act.put, List.setIfInBounds_toArray, List.set_cons_zero, List.set_cons_succ]))); (refine' pickH_val ?po21 ?pw21 ?pr21 ?pq21 ?ph21; (case' po21 => exact rfl); (case' pw21 => rfl); (case' pq21 => (exact fun _ _ _ h => h)); (case' pr21 => (intro w' hw'; go_simp; with_reducible rfl)); (case' ph21 => (try simp only [List.getElem_toArray, List.getElem_cons_zero, List.getElem_cons_succ, Act.put, List.setIfInBounds_toArray, List.set_cons_zero, List.set_cons_succ])))
  (refine' pickH_val (v := (.agg #[.int .i64 (b : Int), .int .i64 (h : Int)])) ?po22 ?pw22 ?pr22 ?pq22 ?ph22; (case' po22 => exact rfl); (case' pw22 => rfl); (case' pq22 => (exact fun _ _ _ h => h)); (case' pr22 => (intro w' hw'; exact run_opLoadM (pre := []) (cs := [.int .i64 (b : Int), .int .i64 (h : Int)]) (post := _) rfl rfl hw'.1 rfl Try.underlying92 rfl rfl)); (case' ph22 => (try simp only [List.getElem_toArray, List.getElem_cons_zero, List.getElem_cons_succ, Act.put, List.setIfInBounds_toArray, List.set_cons_zero, List.set_cons_succ])))
  (refine' pickH_val ?po23 ?pw23 ?pr23 ?pq23 ?ph23; (case' po23 => exact rfl); (case' pw23 => rfl); (case' pq23 => (exact fun _ _ _ h => h)); (case' pr23 => (intro w' hw'; go_simp; with_reducible rfl)); (case' ph23 => (try simp only [List.getElem_toArray, List.getElem_cons_zero, List.getElem_cons_succ, Act.put, List.setIfInBounds_toArray, List.set_cons_zero, List.set_cons_succ]))); (refine' pickH_val ?po24 ?pw24 ?pr24 ?pq24 ?ph24; (case' po24 => exact rfl); (case' pw24 => rfl); (case' pq24 => (exact fun _ _ _ h => h)); (case' pr24 => (intro w' hw'; go_simp; with_reducible rfl)); (case' ph24 => (try simp only [List.getElem_toArray, List.getElem_cons_zero, List.getElem_cons_succ, Act.put, List.setIfInBounds_toArray, List.set_cons_zero, List.set_cons_succ]))); (refine' pickH_val ?po25 ?pw25 ?pr25 ?pq25 ?ph25; (case' po25 => exact rfl); (case' pw25 => rfl); (case' pq25 => (exact fun _ _ _ h => h)); (case' pr25 => (intro w' hw'; go_simp; with_reducible rfl)); (case' ph25 => (try simp only [List.getElem_toArray, List.getElem_cons_zero, List.getElem_cons_succ, Act.put, List.setIfInBounds_toArray, List.set_cons_zero, List.set_cons_succ])))
  (refine' pickH_val (v := (.string seed)) ?po26 ?pw26 ?pr26 ?pq26 ?ph26; (case' po26 => exact rfl); (case' pw26 => rfl); (case' pq26 => (exact fun _ _ _ h => h)); (case' pr26 => (intro w' hw'; exact run_opLoad1 rfl rfl (sg_seed hw'.1) Try.underlying9 rfl)); (case' ph26 => (try simp only [List.getElem_toArray, List.getElem_cons_zero, List.getElem_cons_succ, Act.put, List.setIfInBounds_toArray, List.set_cons_zero, List.set_cons_succ])))
  (refine' pickH_val ?po27 ?pw27 ?pr27 ?pq27 ?ph27; (case' po27 => exact rfl); (case' pw27 => rfl); (case' pq27 => (exact fun _ _ _ h => h)); (case' pr27 => (intro w' hw'; go_simp; with_reducible rfl)); (case' ph27 => (try simp only [List.getElem_toArray, List.getElem_cons_zero, List.getElem_cons_succ, Act.put, List.setIfInBounds_toArray, List.set_cons_zero, List.set_cons_succ])))
  (refine' pickH_val (v := (.int .i64 (x : Int))) ?po28 ?pw28 ?pr28 ?pq28 ?ph28; (case' po28 => exact rfl); (case' pw28 => rfl); (case' pq28 => (exact fun _ _ _ h => h)); (case' pr28 => (intro w' hw'; exact run_opLoad1 rfl rfl hw'.leaf Try.underlying3 rfl)); (case' ph28 => (try simp only [List.getElem_toArray, List.getElem_cons_zero, List.getElem_cons_succ, Act.put, List.setIfInBounds_toArray, List.set_cons_zero, List.set_cons_succ])))
  have hb := grow_drawn w12
  replace SS := hid (SS.out.grow hb)
  replace HG := hid (grow_block HG.out hb)
  replace S := hid (grow_block S.out hb)
  replace HR := hid (grow_block HR.out hb)
  replace L6 := hid (grow_block L6.out hb)
  replace U := hid (grownBy_trans U.out (grownBy_grow hb (some g)))
  replace O1 := hid (O1.out.grow hb)
  replace O2 := hid (O2.out.grow hb)
  clear hb
  generalize ({ w12 with drawn := w12.drawn + 1 } : World) = w13 at *
  refine pickH_nil ?_
  have B13 := hid (blk_lt L6.out)
  have R13 := hid (blk_lt HR.out)
  have Z13 := hid U.out.size
  refine one_call (c := 10) (n := 5) (f := 133) (args := #[.agg #[.int .i64 (b : Int), .int .i64 (h : Int)], .string seed, .int .i64 (x : Int)]) (by kernel_rfl) rfl rfl ?hrun2 (HWY.out w13) (fun e w' ⟨v, he, _⟩ => ⟨_, he⟩) ?_
  case hrun2 => go_simp
  rintro v w14 ⟨v3, he, ho3, hb⟩
  obtain rfl : v = .tuple #[v3, .int .i64 0] := (by injection he)
  replace SS := hid (SS.out.grow hb)
  replace HG := hid (grow_block HG.out hb)
  replace S := hid (grow_block S.out hb)
  replace HR := hid (grow_block HR.out hb)
  replace L6 := hid (grow_block L6.out hb)
  replace U := hid (grownBy_trans U.out (grownBy_grow hb (some g)))
  replace O1 := hid (O1.out.grow hb)
  replace O2 := hid (O2.out.grow hb)
  clear hb
  obtain ⟨⟨A3, c3, rfl, _⟩, _⟩ := ho3.sl
  have O3 := hid ho3
  clear he ho3
  refine ⟨SS.out, ?_⟩
  refine pickH_any (n := 1) (by kernel_rfl) [11, 12, 13, 14] _ _ _ (by kernel_rfl) (SS.out) ?_
  (refine' pickH_val ?po29 ?pw29 ?pr29 ?pq29 ?ph29; (case' po29 => exact rfl); (case' pw29 => rfl); (case' pq29 => (exact fun _ _ _ h => h)); (case' pr29 => (intro w' hw'; go_simp; with_reducible rfl)); (case' ph29 => (try simp only [List.getElem_toArray, List.getElem_cons_zero, List.getElem_cons_succ, Act.put, List.setIfInBounds_toArray, List.set_cons_zero, List.set_cons_succ]))); (refine' pickH_val ?po30 ?pw30 ?pr30 ?pq30 ?ph30; (case' po30 => exact rfl); (case' pw30 => rfl); (case' pq30 => (exact fun _ _ _ h => h)); (case' pr30 => (intro w' hw'; go_simp; with_reducible rfl)); (case' ph30 => (try simp only [List.getElem_toArray, List.getElem_cons_zero, List.getElem_cons_succ, Act.put, List.setIfInBounds_toArray, List.set_cons_zero, List.set_cons_succ]))); (refine' pickH_val ?po31 ?pw31 ?pr31 ?pq31 ?ph31; (case' po31 => exact rfl); (case' pw31 => rfl); (case' pq31 => (exact fun _ _ _ h => h)); (case' pr31 => (intro w' hw'; go_simp; with_reducible rfl)); (case' ph31 => (try simp only [List.getElem_toArray, List.getElem_cons_zero, List.getElem_cons_succ, Act.put, List.setIfInBounds_toArray, List.set_cons_zero, List.set_cons_succ]))); (refine' pickH_val ?po32 ?pw32 ?pr32 ?pq32 ?ph32; (case' po32 => exact rfl); (case' pw32 => rfl); (case' pq32 => (exact fun _ _ _ h => h)); (case' pr32 => (intro w' hw'; go_simp; with_reducible rfl)); (case' ph32 => (try simp only [List.getElem_toArray, List.getElem_cons_zero, List.getElem_cons_succ, Act.put, List.setIfInBounds_toArray, List.set_cons_zero, List.set_cons_succ])))
  refine pickH_nil ?_
  refine one_does (c := 15) (n := 0) (V := Wrote1 g6 (sigC x (.slice A1 (rowOf (shownG seed x sum) b).length c1) (.slice A2 (rowOf (hiddenG seed x sum) b).length c2) (.slice A3 (wayOf seed b h x).length c3)) 49 _) (by kernel_rfl) rfl rfl (does_store1 (i := 3) (cs := sigC x (.slice A1 (rowOf (shownG seed x sum) b).length c1) (.slice A2 (rowOf (hiddenG seed x sum) b).length c2) (.slice none 0 0)) (v := (.slice A3 (wayOf seed b h x).length c3)) rfl rfl rfl L6.out rfl rfl (by kernel_rfl) (by simp [sigC])) ?_
  rintro _ w15 ⟨hz, hgb, _⟩
  have L6 := hid hz
  have HG := hid (blk_other hgb HG.out (by have := HGW.out; have := G6L.out; omega))
  have S := hid (blk_other hgb S.out SLT.out)
  have HR := hid (blk_other hgb HR.out RLT.out)
  have U := hid (grownBy_new U.out hgb G6L.out)
  have O1 := hid (own_keep O1.out hgb B9.out)
  have O2 := hid (own_keep O2.out hgb B9.out)
  have O3 := hid (own_keep O3.out hgb B13.out)
  have SS := hid (show SgS g g6 gs b h seed key (y : Int) x sum _ from ⟨HG.out, ⟨_, _, _, L6.out⟩, S.out⟩)
  clear hz hgb
  refine ⟨SS.out, ?_⟩
  refine wpAnyH_done (by kernel_rfl) ?_ _
  simp only [Act.put, List.setIfInBounds_toArray, List.set_cons_zero, List.set_cons_succ]
  have GRW := hid (show g ≠ gr by have := HGW.out; have := HRL.out; omega)
  go_wp2_with (first | (refine opG_loadB rfl rfl rfl L6.out Try.underlying49 rfl rfl ?_) | (refine store_block 49 _ _ gr 0 (sigC x (.slice A1 (rowOf (shownG seed x sum) b).length c1) (.slice A2 (rowOf (hiddenG seed x sum) b).length c2) (.slice A3 (wayOf seed b h x).length c3)).toList nilSig.toList (sigC x (.slice A1 (rowOf (shownG seed x sum) b).length c1) (.slice A2 (rowOf (hiddenG seed x sum) b).length c2) (.slice A3 (wayOf seed b h x).length c3)).toList 49 rfl rfl rfl rfl rfl (by simpa using HR.out) (by rw [infoSig]; rfl) (by simp [nilSig, sigC]) ?hone (by simp [nilSig, sigC]) ?_))
  case hone => intro v hv; simp [sigC] at hv; rcases hv with rfl | rfl | rfl | rfl <;> rfl
  intro wz hz hgb _
  have HZ := hid (by simpa using hz : wz.heap[gr]? = some (.cells (sigC x (.slice A1 (rowOf (shownG seed x sum) b).length c1) (.slice A2 (rowOf (hiddenG seed x sum) b).length c2) (.slice A3 (wayOf seed b h x).length c3)) 49 (0, 0)))
  have HG := hid (blk_other hgb HG.out GRW.out)
  have U := hid (grownBy_new U.out hgb HRL.out)
  have O1 := hid (own_keep O1.out hgb R9.out)
  have O2 := hid (own_keep O2.out hgb R9.out)
  have O3 := hid (own_keep O3.out hgb R13.out)
  clear hz hgb
  go_wp2_with fail
  refine bodyPost_ret (ret_sig rfl rfl HZ.out rfl) rfl ?_
  exact ⟨_, _, _, rfl, O1.out.base Z9.out, O2.out.base Z9.out, O3.out.base Z13.out, HG.out, U.out⟩
end Go.Proofs.Ytabkaflccaklhaa
