/- quitclaimref25.one: contract. -/
import Derived.Test.YtabkaflccaklhaaQJouF
set_option linter.unusedSimpArgs false
set_option linter.unusedVariables false
namespace Go.Proofs.Ytabkaflccaklhaa
open Go.RowKit
open Go.Qk hiding rotr b4
open Pac
set_option maxHeartbeats 4000000
set_option maxRecDepth 100000
def oneT (L c : List UInt8) : Int × List UInt8 × Nat := match oneF L c with | none => (0, [], 0) | some (k, p, m) => ((k.toNat : Int), p, m)
theorem ret_f25t {fn : Func} {p u : Tmp} {tmps : Array Value} {w : World} {g : Nat} {cs : Array Value} {t : TypeId} {fr : Nat × Nat} (h : fn.results = #[.cell p 108, .tmp u]) (hp : tmps.getD p undef = .pointer (some ⟨g, 0, none⟩)) (hg : w.heap[g]? = some (.cells cs t fr)) (hl : cs.size = 2) :
    (results fn tmps).run Try.prog w = .ok (.tuple #[.agg cs, tmps.getD u undef]) w :=
  results_row_tmp h _ _ g _ _ fr _ hp hg Try.underlying108 rfl (by rw [infoF25 (0, []), hl]; rfl)
theorem does_storeB {P : Program} {T : TypeId} {x y : Operand} {g : Nat} {t : TypeId} {cs cur : List Value} {o : Oper} {a : Act} {w : World} (ho : o.op = .store T x y) (hx : a.eval x = .pointer (some ⟨g, 0, none⟩)) (hy : a.eval y = .agg cs.toArray)
    (hg : w.heap[g]? = some (.cells cur.toArray t (0, 0))) (hi : (P.info? T).map (·.size) = some cs.length) (hl : cs.length = cur.length) (h1 : ∀ v ∈ cs, v.oneCell' = true) :
    Does P o a w (fun _ w' => w'.heap[g]? = some (.cells cs.toArray t (0, 0)) ∧ w.grownBy w' (some g) ∧ (∀ B w0, Below B w0 w → B ≤ g → Below B w0 w')) := by
  have hrun : (execOp a.eval o).run P w = .ok .skip (w.setRow g (cur.toArray.toList.take 0 ++ cs ++ cur.toArray.toList.drop (0 + cs.length)).toArray) := by
    unfold execOp
    simp only [ho, hx, hy, Sem.run_bind, Sem.run_pure, Result.andThen_ok, run_storeAt_agg w g 0 T t cs cur.toArray hg hi (by simp; omega) h1]
  have e : (cur.toArray.toList.take 0 ++ cs ++ cur.toArray.toList.drop (0 + cs.length)).toArray = cs.toArray := by simp [hl]
  rw [e] at hrun
  unfold Does
  rw [hrun]
  exact ⟨heap_setRow_same hg, grownBy_setRow _ _ _, fun B w0 hb hB => below_setRow' hb hB _⟩
theorem refOne25 (L c : List UInt8) (hc : c.length = 32) (hL : L.length ≤ 100000000) (w : World) :
    Calls Try.prog 58 #[.string (bs L), idV c] w fun r w' => r = .returned (.tuple #[.agg #[.int .i64 (oneT L c).1, .string (bs (oneT L c).2.1)], .int .i64 ((oneT L c).2.2 : Int)]) ∧ Below w.heap.size w w' := by
  have HC := hid hc
  have hsz := bs_size L
  have HGT := hid (fun h w => refGetText05 L 2 4194304 h (by omega) w)
  have HNO := hid (fun (h : oneF L c = none) => show oneT L c = (0, [], 0) by unfold oneT; rw [h])
  go_enter Try.func58, Try.ntmps58
  have HB := hid (grow_refl w)
  apply wp_seq_k; intro _ _; apply wp_region_lit
  refine op_box (l := c) rfl rfl rfl ?_
  intro gx w1 hgl hgu hb hr
  have XL := hid (Nat.le_trans HB.out.size hgl)
  replace HB := hid (Grow.trans HB.out hb)
  have X := hid hr; have XU := hid hgu
  clear hr hgl hgu hb
  try simp only [Act.put, List.setIfInBounds_toArray, List.set_cons_zero, List.set_cons_succ]
  go_wp2_with (first | (refine op_loadId rfl rfl rfl X.out (HC.out) ?_) | (refine op_allocC (z := undef) (cs := #[.int .i64 0, .string ByteArray.empty]) rfl rfl (fun _ => by kernel_rfl) ?_) | fail)
  intro gz w2 hgl hgu hb hr
  have ZL := hid (Nat.le_trans HB.out.size hgl)
  have nX_Z := Nat.lt_of_lt_of_le (Array.getElem?_eq_some_iff.1 X.out).1 hgl
  replace HB := hid (Grow.trans HB.out hb)
  replace X := hid (grow_block X.out hb)
  have Z := hid hr
  clear hr hgl hgu hb
  try simp only [Act.put, List.setIfInBounds_toArray, List.set_cons_zero, List.set_cons_succ]
  by_cases hs2 : ∃ a k t, L = a :: k :: t
  case neg =>
    have hlt : (L.length : Int) < 2 := by
      match L, hs2 with
      | [], _ => decide
      | [a], _ => simp
      | a :: k :: t, h => exact absurd ⟨a, k, t, rfl⟩ h
    have HT := hid (HNO.out (by
      match L, hs2 with
      | [], _ => rfl
      | [a], _ => rfl
      | a :: k :: t, h => exact absurd ⟨a, k, t, rfl⟩ h))
    clear hs2
    go_wp2_with (first | (refine op_loadId rfl rfl rfl X.out (HC.out) ?_) | (refine store_block 108 _ _ gz 0 ([.int .i64 0, .string (bs [])]) ([.int .i64 0, .string (bs [])]) ([.int .i64 0, .string (bs [])]) 108 rfl rfl rfl rfl rfl Z.out (infoF25 (0, [])) (by simp) (oneFm (0, [])) rfl ?_) | fail)
    intro w3 hW hgr hbel
    replace X := hid (blk_other' hgr X.out (fun e => by have := Option.some.inj e; omega))
    replace HB := hid (show Grow w w3 from hbel _ _ HB.out ZL.out)
    replace Z := hid (show w3.heap[gz]? = some (.cells ([.int .i64 0, .string (bs [])] : List Value).toArray 108 (0, 0)) from hW)
    clear hW hgr hbel
    go_wp2_with fail
    refine bodyPost_ret (ret_f25t rfl rfl Z.out rfl) rfl ⟨?_, HB.out⟩
    rw [HT.out]; rfl
  obtain ⟨a, k, t, hat⟩ := hs2
  have hlt : ¬ (L.length : Int) < 2 := by rw [hat]; simp; omega
  have h2L : 2 ≤ L.length := by omega
  have hix0 : ∀ w, (Instr.index 9 (.string (bs L)) (.int .i64 0)).run Try.prog w = .ok (.int .u8 (a.toNat : Int)) w := fun w => by
    have h1 := run_index_str (P := Try.prog) 9 (bs L) 0 (by rw [hsz]; omega) 0 rfl w Try.underlying9
    rw [h1, bl_bs, hat]; rfl
  have hix1 : ∀ w, (Instr.index 9 (.string (bs L)) (.int .i64 1)).run Try.prog w = .ok (.int .u8 (k.toNat : Int)) w := fun w => by
    have h1 := run_index_str (P := Try.prog) 9 (bs L) 1 (by rw [hsz]; omega) 1 rfl w Try.underlying9
    rw [h1, bl_bs, hat]; rfl
  have HAT := hid hat
  clear hat
  by_cases ha : a = 74
  case neg =>
    have ha1 : ((a.toNat : Int) != 74) = true := by
      have : a.toNat ≠ 74 := fun h => ha (UInt8.toNat_inj.1 h)
      simp; omega
    have HT := hid (HNO.out (by rw [HAT.out]; simp [oneF, ha]))
    clear ha
    go_wp2_with (first | (refine op_loadId rfl rfl rfl X.out (HC.out) ?_) | (refine store_block 108 _ _ gz 0 ([.int .i64 0, .string (bs [])]) ([.int .i64 0, .string (bs [])]) ([.int .i64 0, .string (bs [])]) 108 rfl rfl rfl rfl rfl Z.out (infoF25 (0, [])) (by simp) (oneFm (0, [])) rfl ?_) | fail)
    intro w4 hW hgr hbel
    replace X := hid (blk_other' hgr X.out (fun e => by have := Option.some.inj e; omega))
    replace HB := hid (show Grow w w4 from hbel _ _ HB.out ZL.out)
    replace Z := hid (show w4.heap[gz]? = some (.cells ([.int .i64 0, .string (bs [])] : List Value).toArray 108 (0, 0)) from hW)
    clear hW hgr hbel
    go_wp2_with fail
    refine bodyPost_ret (ret_f25t rfl rfl Z.out rfl) rfl ⟨?_, HB.out⟩
    rw [HT.out]; rfl
  have ha1 : ((a.toNat : Int) != 74) = false := by rw [ha]; rfl
  by_cases hk : k = 0
  · have hk1 : ((k.toNat : Int) == 0) = true := by rw [hk]; rfl
    have HT := hid (HNO.out (by rw [HAT.out]; simp [oneF, hk]))
    clear ha hk
    go_wp2_with (first | (refine op_loadId rfl rfl rfl X.out (HC.out) ?_) | (refine store_block 108 _ _ gz 0 ([.int .i64 0, .string (bs [])]) ([.int .i64 0, .string (bs [])]) ([.int .i64 0, .string (bs [])]) 108 rfl rfl rfl rfl rfl Z.out (infoF25 (0, [])) (by simp) (oneFm (0, [])) rfl ?_) | fail)
    intro w5 hW hgr hbel
    replace X := hid (blk_other' hgr X.out (fun e => by have := Option.some.inj e; omega))
    replace HB := hid (show Grow w w5 from hbel _ _ HB.out ZL.out)
    replace Z := hid (show w5.heap[gz]? = some (.cells ([.int .i64 0, .string (bs [])] : List Value).toArray 108 (0, 0)) from hW)
    clear hW hgr hbel
    go_wp2_with fail
    refine bodyPost_ret (ret_f25t rfl rfl Z.out rfl) rfl ⟨?_, HB.out⟩
    rw [HT.out]; rfl
  have hk1 : ((k.toNat : Int) == 0) = false := by
    have : k.toNat ≠ 0 := fun h => hk (UInt8.toNat_inj.1 h)
    simp; omega
  have hone : oneF L c = if (textR L 2 mostP).2.2 = 0 ∧ (textR L 2 mostP).2.1 + 8 ≤ L.length ∧ (L.drop (textR L 2 mostP).2.1).take 8 = (nextL c k (textR L 2 mostP).1).take 8 then some (k, (textR L 2 mostP).1, (textR L 2 mostP).2.1 + 8) else none := by
    have hLL := HAT.out
    subst ha
    rw [hLL]
    unfold oneF
    dsimp only
    by_cases h : (textR (74 :: k :: t) 2 mostP).2.2 = 0 ∧ (textR (74 :: k :: t) 2 mostP).2.1 + 8 ≤ (74 :: k :: t).length ∧ ((74 :: k :: t).drop (textR (74 :: k :: t) 2 mostP).2.1).take 8 = (nextL c k (textR (74 :: k :: t) 2 mostP).1).take 8
    · rw [if_pos h, if_pos ⟨rfl, hk, h⟩]
    · rw [if_neg h, if_neg (fun g => h g.2.2)]
  have hpl := textR_le (L := L) (p := 2) (most := mostP) h2L
  have hpm := textR_most (L := L) (p := 2) (most := mostP)
  replace HGT := hid (HGT.out h2L)
  rw [show (4194304 : Nat) = mostP from rfl] at HGT
  generalize textR L 2 mostP = R at *
  obtain ⟨p, pos, e⟩ := R
  dsimp only at hone hpl hpm HGT
  have hpm2 : p.length ≤ 4194304 := hpm
  have HPM := hid hpm2
  have HON := hid hone
  have HK := hid hk
  clear ha hk hone hpm hpm2
  go_wp2_with fail
  refine (HGT.out _).mono ?_
  rintro _ wf ⟨rfl, hb⟩
  replace HB := hid (Grow.trans HB.out hb)
  replace X := hid (grow_block X.out hb)
  replace Z := hid (grow_block Z.out hb)
  clear hb
  go_wp2_with (first | (refine op_loadId rfl rfl rfl X.out (HC.out) ?_) | (refine op_allocC (z := undef) (cs := #[.string ByteArray.empty, .int .i64 0, .int .i64 0]) rfl rfl (fun _ => by kernel_rfl) ?_) | fail)
  intro gr w6 hgl hgu hb hr
  have RL := hid (Nat.le_trans HB.out.size hgl)
  have nX_R := Nat.lt_of_lt_of_le (Array.getElem?_eq_some_iff.1 X.out).1 hgl
  have nZ_R := Nat.lt_of_lt_of_le (Array.getElem?_eq_some_iff.1 Z.out).1 hgl
  replace HB := hid (Grow.trans HB.out hb)
  replace X := hid (grow_block X.out hb)
  replace Z := hid (grow_block Z.out hb)
  have R := hid hr
  clear hr hgl hgu hb
  try simp only [Act.put, List.setIfInBounds_toArray, List.set_cons_zero, List.set_cons_succ]
  go_wp2_with (first | (refine op_loadId rfl rfl rfl X.out (HC.out) ?_) | (refine store_block 63 _ _ gr 0 (rgL L pos e) (rgL [] 0 0) (rgL L pos e) 63 rfl rfl rfl rfl rfl R.out (infoRgL _ _ _) (by simp) (oneRg _ _ _) rfl ?_) | fail)
  intro w7 hW hgr hbel
  replace X := hid (blk_other' hgr X.out (fun e => by have := Option.some.inj e; omega))
  replace Z := hid (blk_other' hgr Z.out (fun e => by have := Option.some.inj e; omega))
  replace HB := hid (show Grow w w7 from hbel _ _ HB.out RL.out)
  replace R := hid (show w7.heap[gr]? = some (.cells (rgL L pos e : List Value).toArray 63 (0, 0)) from hW)
  clear hW hgr hbel
  by_cases he : e = 0
  case neg =>
    have he1 : (e != 0) = true := by simp [he]
    have HT := hid (HNO.out (by rw [HON.out, if_neg (fun h => he h.1)]))
    clear he
    go_wp2_with (first | (refine opG_load1 (i := 0) (v := (.string (bs L))) rfl rfl rfl R.out rfl Try.underlying9 rfl ?_) | (refine opG_load1 (i := 1) (v := (.int .i64 (pos : Int))) rfl rfl rfl R.out rfl Try.underlying3 rfl ?_) | (refine opG_load1 (i := 2) (v := (.int .i64 e)) rfl rfl rfl R.out rfl Try.underlying3 rfl ?_) | (refine op_loadId rfl rfl rfl X.out (HC.out) ?_) | (refine store_block 108 _ _ gz 0 ([.int .i64 0, .string (bs [])]) ([.int .i64 0, .string (bs [])]) ([.int .i64 0, .string (bs [])]) 108 rfl rfl rfl rfl rfl Z.out (infoF25 (0, [])) (by simp) (oneFm (0, [])) rfl ?_) | fail)
    intro w8 hW hgr hbel
    replace X := hid (blk_other' hgr X.out (fun e => by have := Option.some.inj e; omega))
    replace R := hid (blk_other' hgr R.out (fun e => by have := Option.some.inj e; omega))
    replace HB := hid (show Grow w w8 from hbel _ _ HB.out ZL.out)
    replace Z := hid (show w8.heap[gz]? = some (.cells ([.int .i64 0, .string (bs [])] : List Value).toArray 108 (0, 0)) from hW)
    clear hW hgr hbel
    go_wp2_with fail
    refine bodyPost_ret (ret_f25t rfl rfl Z.out rfl) rfl ⟨?_, HB.out⟩
    rw [HT.out]; rfl
  subst he
  have wsub : IntKind.i64.wrap ((L.length : Int) - (pos : Int)) = (L.length : Int) - (pos : Int) := IntWalk.i64_in _ (by omega)
  by_cases h8 : pos + 8 ≤ L.length
  case neg =>
    have h81 : (L.length : Int) - (pos : Int) < 8 := by omega
    have HT := hid (HNO.out (by rw [HON.out, if_neg (fun h => h8 h.2.1)]))
    clear h8
    go_wp2_with (first | (refine opG_load1 (i := 0) (v := (.string (bs L))) rfl rfl rfl R.out rfl Try.underlying9 rfl ?_) | (refine opG_load1 (i := 1) (v := (.int .i64 (pos : Int))) rfl rfl rfl R.out rfl Try.underlying3 rfl ?_) | (refine opG_load1 (i := 2) (v := (.int .i64 0)) rfl rfl rfl R.out rfl Try.underlying3 rfl ?_) | (refine op_loadId rfl rfl rfl X.out (HC.out) ?_) | (refine store_block 108 _ _ gz 0 ([.int .i64 0, .string (bs [])]) ([.int .i64 0, .string (bs [])]) ([.int .i64 0, .string (bs [])]) 108 rfl rfl rfl rfl rfl Z.out (infoF25 (0, [])) (by simp) (oneFm (0, [])) rfl ?_) | fail)
    intro w9 hW hgr hbel
    replace X := hid (blk_other' hgr X.out (fun e => by have := Option.some.inj e; omega))
    replace R := hid (blk_other' hgr R.out (fun e => by have := Option.some.inj e; omega))
    replace HB := hid (show Grow w w9 from hbel _ _ HB.out ZL.out)
    replace Z := hid (show w9.heap[gz]? = some (.cells ([.int .i64 0, .string (bs [])] : List Value).toArray 108 (0, 0)) from hW)
    clear hW hgr hbel
    go_wp2_with fail
    refine bodyPost_ret (ret_f25t rfl rfl Z.out rfl) rfl ⟨?_, HB.out⟩
    rw [HT.out]; rfl
  have h81 : ¬ (L.length : Int) - (pos : Int) < 8 := by omega
  have wk : IntKind.i64.wrap (k.toNat : Int) = (k.toNat : Int) := by have := k.toNat_lt; simp [IntKind.wrap, IntKind.signed, IntKind.bits]; omega
  go_wp2_with (first | (refine opG_load1 (i := 0) (v := (.string (bs L))) rfl rfl rfl R.out rfl Try.underlying9 rfl ?_) | (refine opG_load1 (i := 1) (v := (.int .i64 (pos : Int))) rfl rfl rfl R.out rfl Try.underlying3 rfl ?_) | (refine opG_load1 (i := 2) (v := (.int .i64 0)) rfl rfl rfl R.out rfl Try.underlying3 rfl ?_) | (refine op_loadId rfl rfl rfl X.out (HC.out) ?_) | (refine op_allocC (z := undef) (cs := #[.int .i64 0, .string ByteArray.empty]) rfl rfl (fun _ => by kernel_rfl) ?_) | fail)
  intro gf w10 hgl hgu hb hr
  have FL := hid (Nat.le_trans HB.out.size hgl)
  have nX_F := Nat.lt_of_lt_of_le (Array.getElem?_eq_some_iff.1 X.out).1 hgl
  have nZ_F := Nat.lt_of_lt_of_le (Array.getElem?_eq_some_iff.1 Z.out).1 hgl
  have nR_F := Nat.lt_of_lt_of_le (Array.getElem?_eq_some_iff.1 R.out).1 hgl
  replace HB := hid (Grow.trans HB.out hb)
  replace X := hid (grow_block X.out hb)
  replace Z := hid (grow_block Z.out hb)
  replace R := hid (grow_block R.out hb)
  have F := hid hr
  clear hr hgl hgu hb
  try simp only [Act.put, List.setIfInBounds_toArray, List.set_cons_zero, List.set_cons_succ]
  go_wp2_with (first | (refine opG_load1 (i := 0) (v := (.string (bs L))) rfl rfl rfl R.out rfl Try.underlying9 rfl ?_) | (refine opG_load1 (i := 1) (v := (.int .i64 (pos : Int))) rfl rfl rfl R.out rfl Try.underlying3 rfl ?_) | (refine opG_load1 (i := 2) (v := (.int .i64 0)) rfl rfl rfl R.out rfl Try.underlying3 rfl ?_) | (refine op_loadId rfl rfl rfl X.out (HC.out) ?_) | (refine store_block 108 _ _ gf 0 ([.int .i64 (k.toNat : Int), .string (bs p)]) ([.int .i64 0, .string (bs [])]) ([.int .i64 (k.toNat : Int), .string (bs p)]) 108 rfl rfl rfl rfl rfl F.out (infoF25 ((k.toNat : Int), p)) (by simp) (oneFm ((k.toNat : Int), p)) rfl ?_) | fail)
  intro w11 hW hgr hbel
  replace X := hid (blk_other' hgr X.out (fun e => by have := Option.some.inj e; omega))
  replace Z := hid (blk_other' hgr Z.out (fun e => by have := Option.some.inj e; omega))
  replace R := hid (blk_other' hgr R.out (fun e => by have := Option.some.inj e; omega))
  replace HB := hid (show Grow w w11 from hbel _ _ HB.out FL.out)
  replace F := hid (show w11.heap[gf]? = some (.cells ([.int .i64 (k.toNat : Int), .string (bs p)] : List Value).toArray 108 (0, 0)) from hW)
  clear hW hgr hbel
  have HNX := hid (fun w => next25 c p k HC.out HPM.out w)
  have HNL := hid (nextL_length c k p)
  generalize nextL c k p = N at *
  have HRB := hid (fun w => ref3Bytes N HNL.out w)
  have hex : (bs L).extract pos (pos + 8) = bs ((L.drop pos).take 8) := by rw [bs_extract, Nat.add_sub_cancel_left]
  have hexN : (bs N).extract 0 8 = bs (N.take 8) := by rw [bs_extract, List.drop_zero]
  have hsN : (bs N).size = 32 := by rw [bs_size, HNL.out]
  have wp8 : IntKind.i64.wrap ((pos : Int) + 8) = (pos : Int) + 8 := IntWalk.i64_in _ (by omega)
  have q0 : (0 : Int) ≤ (pos : Int) := by omega
  have q1 : (0 : Int) ≤ (pos : Int) + 8 := by omega
  have q2 : (pos : Int) + 8 ≤ (L.length : Int) := by omega
  have q3 : (pos : Int) ≤ (pos : Int) + 8 := by omega
  have q4 : ((pos : Int) + 8).toNat = pos + 8 := by omega
  have H8 := hid h8
  clear h8
  obtain ⟨bb, hbb⟩ : ∃ bb, bb = decide ((L.drop pos).take 8 = N.take 8) := ⟨_, rfl⟩
  have hcmp : ((bs ((L.drop pos).take 8)).toList == (bs (N.take 8)).toList) = bb := by
    rw [hbb]
    by_cases h : (L.drop pos).take 8 = N.take 8
    · rw [h]; simp
    · rw [toList_beq_ne (fun g => h (bs_inj g))]; simp [h]
  have HBB := hid hbb
  clear hbb
  go_wp2_with fail
  (refine' wp_region_head 13 0 [_, _, _, _, _, _, _, _, _, _, _, _, _] rfl (by kernel_rfl) (by kernel_rfl) ?hreg1; case' hreg1 => simp only [List.take_succ_cons, List.take_zero, List.zip_cons_cons, List.zip_nil_right, List.drop_succ_cons, List.drop_zero, List.drop_nil])
  (refine' head_val ?dw2 ?de2 ?dr2 ?dh2; (case' dw2 => rfl); (case' de2 => (first | exact fun _ _ _ => trivial | (intro t ht w; cases ht; simp [upE]))); (case' dr2 => (intro w' hw' _; go_simp; with_reducible rfl)); (case' dh2 => (try simp only [Act.put, List.setIfInBounds_toArray, List.set_cons_zero, List.set_cons_succ]))); (refine' head_val ?dw3 ?de3 ?dr3 ?dh3; (case' dw3 => rfl); (case' de3 => (first | exact fun _ _ _ => trivial | (intro t ht w; cases ht; simp [upE]))); (case' dr3 => (intro w' hw' _; go_simp; with_reducible rfl)); (case' dh3 => (try simp only [Act.put, List.setIfInBounds_toArray, List.set_cons_zero, List.set_cons_succ])))
  (refine' head_load1 (i := 1) (v := (.int .i64 (pos : Int))) rfl ?_ rfl rfl R.out rfl Try.underlying3 rfl ?_; (first | exact fun _ _ _ => trivial | (intro t ht w; cases ht; simp [upE])); try simp only [Act.put, List.setIfInBounds_toArray, List.set_cons_zero, List.set_cons_succ])
  (refine' head_val ?dw4 ?de4 ?dr4 ?dh4; (case' dw4 => rfl); (case' de4 => (first | exact fun _ _ _ => trivial | (intro t ht w; cases ht; simp [upE]))); (case' dr4 => (intro w' hw' _; go_simp; with_reducible rfl)); (case' dh4 => (try simp only [Act.put, List.setIfInBounds_toArray, List.set_cons_zero, List.set_cons_succ])))
  (refine' head_load1 (i := 1) (v := (.int .i64 (pos : Int))) rfl ?_ rfl rfl R.out rfl Try.underlying3 rfl ?_; (first | exact fun _ _ _ => trivial | (intro t ht w; cases ht; simp [upE])); try simp only [Act.put, List.setIfInBounds_toArray, List.set_cons_zero, List.set_cons_succ])
  (refine' head_val ?dw5 ?de5 ?dr5 ?dh5; (case' dw5 => rfl); (case' de5 => (first | exact fun _ _ _ => trivial | (intro t ht w; cases ht; simp [upE]))); (case' dr5 => (intro w' hw' _; go_simp; with_reducible rfl)); (case' dh5 => (try simp only [Act.put, List.setIfInBounds_toArray, List.set_cons_zero, List.set_cons_succ]))); (refine' head_val ?dw6 ?de6 ?dr6 ?dh6; (case' dw6 => rfl); (case' de6 => (first | exact fun _ _ _ => trivial | (intro t ht w; cases ht; simp [upE]))); (case' dr6 => (intro w' hw' _; go_simp; with_reducible rfl)); (case' dh6 => (try simp only [Act.put, List.setIfInBounds_toArray, List.set_cons_zero, List.set_cons_succ])))
  (refine' head_loadId (x := _) rfl ?_ rfl rfl X.out (HC.out) ?_; (first | exact fun _ _ _ => trivial | (intro t ht w; cases ht; simp [upE])); try simp only [Act.put, List.setIfInBounds_toArray, List.set_cons_zero, List.set_cons_succ])
  (refine' head_loadB rfl ?_ rfl rfl F.out Try.underlying108 rfl rfl ?_; (first | exact fun _ _ _ => trivial | (intro t ht w; cases ht; simp [upE])); try simp only [Act.put, List.setIfInBounds_toArray, List.set_cons_zero, List.set_cons_succ])
  (refine' head_call ?cw7 ?ce7 ?cr7 ?cc7 ?ch7; (case' cw7 => rfl); (case' ce7 => (first | exact fun _ _ _ => trivial | (intro t ht w; cases ht; simp [upE]))); (case' cr7 => (intro w'; go_simp; first | exact ⟨rfl, rfl⟩ | with_reducible rfl)); (case' cc7 => (intro w' hw' _; exact HNX.out w')); (case' ch7 => (try simp only [Act.put, List.setIfInBounds_toArray, List.set_cons_zero, List.set_cons_succ])))
  (refine' head_call ?cw8 ?ce8 ?cr8 ?cc8 ?ch8; (case' cw8 => rfl); (case' ce8 => (first | exact fun _ _ _ => trivial | (intro t ht w; cases ht; simp [upE]))); (case' cr8 => (intro w'; go_simp; first | exact ⟨rfl, rfl⟩ | with_reducible rfl)); (case' cc8 => (intro w' hw' _; exact HRB.out w')); (case' ch8 => (try simp only [Act.put, List.setIfInBounds_toArray, List.set_cons_zero, List.set_cons_succ])))
  (refine' head_val ?dw9 ?de9 ?dr9 ?dh9; (case' dw9 => rfl); (case' de9 => (first | exact fun _ _ _ => trivial | (intro t ht w; cases ht; simp [upE]))); (case' dr9 => (intro w' hw' _; go_simp; with_reducible rfl)); (case' dh9 => (try simp only [Act.put, List.setIfInBounds_toArray, List.set_cons_zero, List.set_cons_succ])))
  (refine' head_val (v := .bool (!bb)) ?dw10 ?de10 ?dr10 ?dh10; (case' dw10 => rfl); (case' de10 => (first | exact fun _ _ _ => trivial | (intro t ht w; cases ht; simp [upE]))); (case' dr10 => (intro w' hw' hE; (go_simp; try simp [hcmp]))); (case' dh10 => (try simp only [Act.put, List.setIfInBounds_toArray, List.set_cons_zero, List.set_cons_succ])))
  refine head_nil ?_
  intro w12 hb _
  replace HB := hid (Grow.trans HB.out hb)
  replace X := hid (grow_block X.out hb)
  replace Z := hid (grow_block Z.out hb)
  replace R := hid (grow_block R.out hb)
  replace F := hid (grow_block F.out hb)
  clear hb
  refine wpList_nil ?_
  cases bb with
  | false =>
    have HT := hid (HNO.out (by rw [HON.out, if_neg (fun h => absurd HBB.out (by simp [h.2.2]))]))
    clear hcmp
    go_wp2_with (first | (refine opG_load1 (i := 0) (v := (.string (bs L))) rfl rfl rfl R.out rfl Try.underlying9 rfl ?_) | (refine opG_load1 (i := 1) (v := (.int .i64 (pos : Int))) rfl rfl rfl R.out rfl Try.underlying3 rfl ?_) | (refine opG_load1 (i := 2) (v := (.int .i64 0)) rfl rfl rfl R.out rfl Try.underlying3 rfl ?_) | (refine op_loadId rfl rfl rfl X.out (HC.out) ?_) | (refine store_block 108 _ _ gz 0 ([.int .i64 0, .string (bs [])]) ([.int .i64 0, .string (bs [])]) ([.int .i64 0, .string (bs [])]) 108 rfl rfl rfl rfl rfl Z.out (infoF25 (0, [])) (by simp) (oneFm (0, [])) rfl ?_) | fail)
    intro w13 hW hgr hbel
    replace X := hid (blk_other' hgr X.out (fun e => by have := Option.some.inj e; omega))
    replace R := hid (blk_other' hgr R.out (fun e => by have := Option.some.inj e; omega))
    replace F := hid (blk_other' hgr F.out (fun e => by have := Option.some.inj e; omega))
    replace HB := hid (show Grow w w13 from hbel _ _ HB.out ZL.out)
    replace Z := hid (show w13.heap[gz]? = some (.cells ([.int .i64 0, .string (bs [])] : List Value).toArray 108 (0, 0)) from hW)
    clear hW hgr hbel
    go_wp2_with fail
    refine bodyPost_ret (ret_f25t rfl rfl Z.out rfl) rfl ⟨?_, HB.out⟩
    rw [HT.out]; rfl
  | true =>
    have HT := hid (show oneT L c = ((k.toNat : Int), p, pos + 8) by unfold oneT; rw [HON.out, if_pos (by first | exact ⟨rfl, H8.out, by simpa using HBB.out.symm⟩ | exact ⟨trivial, H8.out, by simpa using HBB.out.symm⟩)])
    clear hcmp
    go_wp2_with fail
    refine wp_region_floatG (fun W => W.heap[gf]? = some (.cells #[.int .i64 (k.toNat : Int), .string (bs p)] 108 (0, 0)) ∧ W.heap[gr]? = some (rgOb L pos 0)) [0,1,2,3] [4] [5] rfl (by kernel_rfl) rfl (by kernel_rfl) (by kernel_rfl) ?_
    intro wf14 hb
    replace HB := hid (Grow.trans HB.out hb)
    replace X := hid (grow_block X.out hb)
    replace Z := hid (grow_block Z.out hb)
    replace R := hid (grow_block R.out hb)
    replace F := hid (grow_block F.out hb)
    clear hb
    refine ⟨⟨F.out, R.out⟩, ?_⟩
    (refine' pickT_val (v := (.agg #[.int .i64 (k.toNat : Int), .string (bs p)])) ?po11 ?pw11 ?pr11 ?pq11 ?ph11; (case' po11 => exact rfl); (case' pw11 => rfl); (case' pq11 => (exact fun _ _ _ h => h)); (case' pr11 => (intro w' hw'; exact run_opLoadB rfl rfl hw'.1 Try.underlying108 rfl (infoF25 (0, [])))); (case' ph11 => (try simp only [List.getElem_toArray, List.getElem_cons_zero, List.getElem_cons_succ, Act.put, List.setIfInBounds_toArray, List.set_cons_zero, List.set_cons_succ])))
    (refine' pickT_val ?po12 ?pw12 ?pr12 ?pq12 ?ph12; (case' po12 => exact rfl); (case' pw12 => rfl); (case' pq12 => (exact fun _ _ _ h => h)); (case' pr12 => (intro w' hw'; go_simp; with_reducible rfl)); (case' ph12 => (try simp only [List.getElem_toArray, List.getElem_cons_zero, List.getElem_cons_succ, Act.put, List.setIfInBounds_toArray, List.set_cons_zero, List.set_cons_succ])))
    (refine' pickT_val (v := (.int .i64 (pos : Int))) ?po13 ?pw13 ?pr13 ?pq13 ?ph13; (case' po13 => exact rfl); (case' pw13 => rfl); (case' pq13 => (exact fun _ _ _ h => h)); (case' pr13 => (intro w' hw'; exact run_opLoadC (i := 1) rfl rfl hw'.2 rfl Try.underlying3 rfl)); (case' ph13 => (try simp only [List.getElem_toArray, List.getElem_cons_zero, List.getElem_cons_succ, Act.put, List.setIfInBounds_toArray, List.set_cons_zero, List.set_cons_succ])))
    (refine' pickT_val ?po14 ?pw14 ?pr14 ?pq14 ?ph14; (case' po14 => exact rfl); (case' pw14 => rfl); (case' pq14 => (exact fun _ _ _ h => h)); (case' pr14 => (intro w' hw'; go_simp; with_reducible rfl)); (case' ph14 => (try simp only [List.getElem_toArray, List.getElem_cons_zero, List.getElem_cons_succ, Act.put, List.setIfInBounds_toArray, List.set_cons_zero, List.set_cons_succ])))
    refine pickT_nil ?_
    refine seqT_does (V := (fun v w' => w'.heap[gz]? = some (.cells ([.int .i64 (k.toNat : Int), .string (bs p)] : List Value).toArray 108 (0, 0)) ∧ World.grownBy _ w' (some gz) ∧ (∀ B w0, Below B w0 _ → B ≤ gz → Below B w0 w'))) rfl rfl (does_storeB (cur := [.int .i64 0, .string (bs [])]) rfl rfl rfl Z.out (infoF25 ((k.toNat : Int), p)) rfl (oneFm ((k.toNat : Int), p))) ?_
    intro vz wz ⟨hz1, hz2, hz3⟩
    have HZ := hid hz1
    have HBZ := hid (show Grow w wz from hz3 _ _ HB.out ZL.out)
    refine ⟨⟨blk_other' hz2 F.out (fun e => by have := Option.some.inj e; omega), blk_other' hz2 R.out (fun e => by have := Option.some.inj e; omega)⟩, ?_⟩
    refine seqT_nil ?_
    show wpList _ _ _ (_ :: []) _ _
    clear hz1 hz2 hz3
    go_wp2_with fail
    refine bodyPost_ret (ret_f25t rfl rfl HZ.out rfl) rfl ⟨?_, HBZ.out⟩
    rw [HT.out]; rfl
end Go.Proofs.Ytabkaflccaklhaa
