/- quitclaimref05's reader: Fail, GetNum: contracts. -/
import Derived.Test.YtabkaflccaklhaaQJouD
set_option linter.unusedSimpArgs false
set_option linter.unusedVariables false
namespace Go.Proofs.Ytabkaflccaklhaa
open Go.RowKit
open Go.Qk hiding rotr b4
open Pac
set_option maxHeartbeats 4000000
set_option maxRecDepth 100000
abbrev rgL (L : List UInt8) (p : Nat) (e : Int) : List Value := [.string (bs L), .int .i64 (p : Int), .int .i64 e]
abbrev rgV (L : List UInt8) (p : Nat) (e : Int) : Value := .agg #[.string (bs L), .int .i64 (p : Int), .int .i64 e]
abbrev rgOb (L : List UInt8) (p : Nat) (e : Int) : Obj := .cells #[.string (bs L), .int .i64 (p : Int), .int .i64 e] 63 (0, 0)
theorem infoRg : (Try.prog.info? 63).map (·.size) = some 3 := by kernel_rfl
theorem infoRgL (L : List UInt8) (p : Nat) (e : Int) : (Try.prog.info? 63).map (·.size) = some (rgL L p e).length := by kernel_rfl
theorem oneRg (L : List UInt8) (p : Nat) (e : Int) : ∀ v ∈ rgL L p e, v.oneCell' = true := by
  intro v hv
  simp only [rgL, List.mem_cons, List.not_mem_nil, or_false] at hv
  rcases hv with rfl | rfl | rfl <;> rfl
theorem ret_rg {fn : Func} {p : Tmp} {tmps : Array Value} {w : World} {g : Nat} {cs : Array Value} {t : TypeId} {fr : Nat × Nat} (h : fn.results = #[.cell p 63]) (hp : tmps.getD p undef = .pointer (some ⟨g, 0, none⟩)) (hg : w.heap[g]? = some (.cells cs t fr)) (hl : cs.size = 3) :
    (results fn tmps).run Try.prog w = .ok (.agg cs) w :=
  results_cell_row h _ _ g t _ fr _ hp hg Try.underlying63 rfl (by rw [infoRg, hl])
theorem ret_rgt {fn : Func} {p u : Tmp} {tmps : Array Value} {w : World} {g : Nat} {cs : Array Value} {t : TypeId} {fr : Nat × Nat} (h : fn.results = #[.cell p 63, .tmp u]) (hp : tmps.getD p undef = .pointer (some ⟨g, 0, none⟩)) (hg : w.heap[g]? = some (.cells cs t fr)) (hl : cs.size = 3) :
    (results fn tmps).run Try.prog w = .ok (.tuple #[.agg cs, tmps.getD u undef]) w :=
  results_row_tmp h _ _ g _ _ fr _ hp hg Try.underlying63 rfl (by rw [infoRg, hl])
theorem refFail05 (L : List UInt8) (p : Nat) (k : Int) (w : World) :
    Calls Try.prog 139 #[rgV L p 0, .int .i64 k] w fun r w' => r = .returned (rgV L p k) ∧ Below w.heap.size w w' := by
  go_enter Try.func139, Try.ntmps139
  have HB := hid (grow_refl w)
  apply wp_seq_k; intro _ _; apply wp_region_lit
  go_wp2_with (first | (refine op_boxC (cs := #[.string (bs L), .int .i64 (p : Int), .int .i64 0]) rfl rfl rfl rfl ?_) | fail)
  intro gp w1 hgl hgu hb hr
  have PL := hid (Nat.le_trans HB.out.size hgl)
  replace HB := hid (Grow.trans HB.out hb)
  have P := hid hr
  clear hr hgl hgu hb
  try simp only [Act.put, List.setIfInBounds_toArray, List.set_cons_zero, List.set_cons_succ]
  go_wp2_with (first | (refine op_allocC (z := undef) (cs := #[.string ByteArray.empty, .int .i64 0, .int .i64 0]) rfl rfl (fun _ => by kernel_rfl) ?_) | fail)
  intro gr w2 hgl hgu hb hr
  have RL := hid (Nat.le_trans HB.out.size hgl)
  have nP_R := Nat.lt_of_lt_of_le (Array.getElem?_eq_some_iff.1 P.out).1 hgl
  replace HB := hid (Grow.trans HB.out hb)
  replace P := hid (grow_block P.out hb)
  have R := hid hr
  clear hr hgl hgu hb
  try simp only [Act.put, List.setIfInBounds_toArray, List.set_cons_zero, List.set_cons_succ]
  go_wp2_with (first | (refine opG_load1 (i := 0) (v := (.string (bs L))) rfl rfl rfl P.out rfl Try.underlying9 rfl ?_) | (refine opG_load1 (i := 1) (v := (.int .i64 (p : Int))) rfl rfl rfl P.out rfl Try.underlying3 rfl ?_) | (refine opG_load1 (i := 2) (v := (.int .i64 0)) rfl rfl rfl P.out rfl Try.underlying3 rfl ?_) | (refine op_store1 (g := gp) (i := 2) (v := .int .i64 k) rfl rfl rfl rfl (by first | rfl | (go_simp; done) | (go_simp; rfl)) P.out rfl rfl (infoInt') (by simp) ?_) | fail)
  intro w3 hW hgr hbel
  replace R := hid (blk_other' hgr R.out (fun e => by have := Option.some.inj e; omega))
  replace HB := hid (show Grow w w3 from hbel _ _ HB.out PL.out)
  replace P := hid (show w3.heap[gp]? = some (rgOb L p k) from hW)
  clear hW hgr hbel
  go_wp2_with (first | (refine opG_loadB rfl rfl rfl P.out Try.underlying63 rfl rfl ?_) | (refine store_block 63 _ _ gr 0 (rgL L p k) (rgL [] 0 0) (rgL L p k) 63 rfl rfl rfl rfl rfl R.out (infoRgL _ _ _) (by simp) (oneRg _ _ _) rfl ?_) | fail)
  intro w4 hW hgr hbel
  replace P := hid (blk_other' hgr P.out (fun e => by have := Option.some.inj e; omega))
  replace HB := hid (show Grow w w4 from hbel _ _ HB.out RL.out)
  replace R := hid (show w4.heap[gr]? = some (.cells (rgL L p k : List Value).toArray 63 (0, 0)) from hW)
  clear hW hgr hbel
  go_wp2_with fail
  refine bodyPost_ret (ret_rg rfl rfl R.out rfl) rfl ⟨rfl, HB.out⟩
theorem refGetNum05 (L : List UInt8) (p : Nat) (hp : p ≤ L.length) (hL : L.length ≤ 1000000000) (w : World) :
    Calls Try.prog 80 #[rgV L p 0] w fun r w' => r = .returned (.tuple #[rgV L (posR p (numR L p)) (errR (numR L p)), .int .i64 (valR (numR L p))]) ∧ Below w.heap.size w w' := by
  have hr : numR L p = rdN 0 0 (L.drop p) := rfl
  have HR0 := hid hr
  clear hr
  generalize numR L p = R at *
  have hsz := bs_size L
  go_enter Try.func80, Try.ntmps80
  have HB := hid (grow_refl w)
  apply wp_seq_k; intro _ _; apply wp_region_lit
  go_wp2_with (first | (refine op_boxC (cs := #[.string (bs L), .int .i64 (p : Int), .int .i64 0]) rfl rfl rfl rfl ?_) | fail)
  intro gp w1 hgl hgu hb hr
  have PL := hid (Nat.le_trans HB.out.size hgl)
  replace HB := hid (Grow.trans HB.out hb)
  have P := hid hr
  clear hr hgl hgu hb
  try simp only [Act.put, List.setIfInBounds_toArray, List.set_cons_zero, List.set_cons_succ]
  go_wp2_with (first | (refine op_allocC (z := undef) (cs := #[.string ByteArray.empty, .int .i64 0, .int .i64 0]) rfl rfl (fun _ => by kernel_rfl) ?_) | fail)
  intro gz w2 hgl hgu hb hr
  have ZL := hid (Nat.le_trans HB.out.size hgl)
  have nP_Z := Nat.lt_of_lt_of_le (Array.getElem?_eq_some_iff.1 P.out).1 hgl
  replace HB := hid (Grow.trans HB.out hb)
  replace P := hid (grow_block P.out hb)
  have Z := hid hr
  clear hr hgl hgu hb
  try simp only [Act.put, List.setIfInBounds_toArray, List.set_cons_zero, List.set_cons_succ]
  go_wp2_with (first | (refine opG_load1 (i := 1) (v := .int .i64 (p : Int)) rfl rfl rfl P.out rfl Try.underlying3 rfl ?_) | (refine opG_load1 (i := 2) (v := .int .i64 0) rfl rfl rfl P.out rfl Try.underlying3 rfl ?_) | (refine opG_load1 (i := 0) (v := .string (bs L)) rfl rfl rfl P.out rfl Try.underlying9 rfl ?_) | fail)
  go_loopg [4, 5, 6] 9 (fun z vv qq ii wr => ∃ n v : Nat, n ≤ 8 ∧ z = 9 - n ∧ vv = .int .i64 (v : Int) ∧ qq = .int .i64 ((2 ^ (7 * n) : Nat) : Int) ∧ ii = .int .i64 (n : Int) ∧ p + n ≤ L.length ∧ Hid (v < 2 ^ (7 * n)) ∧ Hid (wr.heap[gp]? = some (rgOb L p 0)) ∧ Hid (wr.heap[gz]? = some (rgOb [] 0 0)) ∧ Hid (Grow w wr) ∧ Hid (R = rdN n v (L.drop (p + n))))
  case atStart => exact ⟨0, 0, by omega, by omega, rfl, rfl, rfl, by omega, hid (by decide), P, Z, HB, HR0⟩
  case round =>
    clear P Z HB HR0
    obtain ⟨n, v, hn, hz, rfl, rfl, rfl, hpn, HV, P, Z, HB, HR⟩ := hrel
    have n0 : (0 : Int) ≤ (n : Int) := by omega
    have n9 : (n : Int) < 9 := by omega
    cases hdr : L.drop (p + n) with
    | nil =>
      have hln : (L.length : Int) ≤ (p : Int) + (n : Int) := by have := congrArg List.length hdr; simp at this; omega
      have HRS := hid (show R = .short by rw [HR.out, hdr]; rfl)
      clear hdr HR
      go_wp2_with (first | (refine opG_load1 (i := 1) (v := .int .i64 (p : Int)) rfl rfl rfl P.out rfl Try.underlying3 rfl ?_) | (refine opG_load1 (i := 2) (v := .int .i64 0) rfl rfl rfl P.out rfl Try.underlying3 rfl ?_) | (refine opG_load1 (i := 0) (v := .string (bs L)) rfl rfl rfl P.out rfl Try.underlying9 rfl ?_) | (refine opG_loadB rfl rfl rfl P.out Try.underlying63 rfl rfl ?_) | fail)
      refine (refFail05 L p 2 _).mono ?_
      rintro _ wf ⟨rfl, hb⟩
      replace HB := hid (Grow.trans HB.out hb)
      replace P := hid (grow_block P.out hb)
      replace Z := hid (grow_block Z.out hb)
      clear hb
      go_wp2_with (first | (refine store_block 63 _ _ gz 0 (rgL L p 2) (rgL [] 0 0) (rgL L p 2) 63 rfl rfl rfl rfl rfl Z.out (infoRgL _ _ _) (by simp) (oneRg _ _ _) rfl ?_) | fail)
      intro w3 hW hgr hbel
      replace P := hid (blk_other' hgr P.out (fun e => by have := Option.some.inj e; omega))
      replace HB := hid (show Grow w w3 from hbel _ _ HB.out ZL.out)
      replace Z := hid (show w3.heap[gz]? = some (.cells (rgL L p 2 : List Value).toArray 63 (0, 0)) from hW)
      clear hW hgr hbel
      go_wp2_with fail
      refine bodyPost_ret (ret_rgt rfl rfl Z.out rfl) rfl ⟨?_, HB.out⟩
      rw [HRS.out]; rfl
    | cons b l =>
      have hlt : p + n < L.length := by have := congrArg List.length hdr; simp at this; omega
      have hln : ¬ (L.length : Int) ≤ (p : Int) + (n : Int) := by omega
      have hdr2 : L.drop (p + (n + 1)) = l := by rw [← Nat.add_assoc, ← List.drop_drop, hdr]; rfl
      obtain ⟨c, hc⟩ : ∃ c : Nat, b.toNat = c := ⟨_, rfl⟩
      have hcb : c ≤ 255 := by have := b.toNat_lt; omega
      have hix : ∀ w, (Instr.index 9 (.string (bs L)) (.int .i64 ((p : Int) + (n : Int)))).run Try.prog w = .ok (.int .u8 (c : Int)) w := fun w => by
        have h1 := run_index_str (P := Try.prog) 9 (bs L) (p + n) (by rw [hsz]; exact hlt) ((p : Int) + (n : Int)) (by omega) w Try.underlying9
        rw [h1, bl_bs]
        have h2 : L.getD (p + n) 0 = b := by
          have h3 : (L.drop (p + n))[0]? = some b := by rw [hdr]; rfl
          rw [List.getElem?_drop, Nat.add_zero] at h3
          simp [List.getD_eq_getElem?_getD, h3]
        show Result.ok (Value.int .u8 (b8 L (p + n))) w = _
        unfold b8
        rw [h2, hc]
      have HRD := hid (show R = rdN n v (b :: l) by rw [HR.out, hdr])
      have hpw := pow_7 n hn
      obtain ⟨q, hq⟩ : ∃ q : Nat, 2 ^ (7 * n) = q := ⟨_, rfl⟩
      have hvq := HV.out
      rw [hq] at hpw hvq ⊢
      have HD2 := hid hdr2
      have HLT := hid hlt
      clear hdr hdr2 HR HV
      by_cases h8 : n = 8
      · have h8e : ((n : Int) == 8) = true := by simp; omega
        have h8l : ¬ (n : Int) < 8 := by omega
        by_cases hA : 64 < c
        · have hAi : (64 : Int) < (c : Int) := by omega
          have HRS := hid (show R = .form by rw [HRD.out, rdN, hc, if_pos ⟨by omega, hA⟩])
          clear HRD hc h8 hq
          go_wp2_with (first | (refine opG_load1 (i := 1) (v := .int .i64 (p : Int)) rfl rfl rfl P.out rfl Try.underlying3 rfl ?_) | (refine opG_load1 (i := 2) (v := .int .i64 0) rfl rfl rfl P.out rfl Try.underlying3 rfl ?_) | (refine opG_load1 (i := 0) (v := .string (bs L)) rfl rfl rfl P.out rfl Try.underlying9 rfl ?_) | (refine opG_loadB rfl rfl rfl P.out Try.underlying63 rfl rfl ?_) | fail)
          refine (refFail05 L p 3 _).mono ?_
          rintro _ wf ⟨rfl, hb⟩
          replace HB := hid (Grow.trans HB.out hb)
          replace P := hid (grow_block P.out hb)
          replace Z := hid (grow_block Z.out hb)
          clear hb
          go_wp2_with (first | (refine store_block 63 _ _ gz 0 (rgL L p 3) (rgL [] 0 0) (rgL L p 3) 63 rfl rfl rfl rfl rfl Z.out (infoRgL _ _ _) (by simp) (oneRg _ _ _) rfl ?_) | fail)
          intro w4 hW hgr hbel
          replace P := hid (blk_other' hgr P.out (fun e => by have := Option.some.inj e; omega))
          replace HB := hid (show Grow w w4 from hbel _ _ HB.out ZL.out)
          replace Z := hid (show w4.heap[gz]? = some (.cells (rgL L p 3 : List Value).toArray 63 (0, 0)) from hW)
          clear hW hgr hbel
          go_wp2_with fail
          refine bodyPost_ret (ret_rgt rfl rfl Z.out rfl) rfl ⟨?_, HB.out⟩
          rw [HRS.out]; rfl
        have hq8 : q = 72057594037927936 := by rw [← hq, h8]
        have hAi : ¬ (64 : Int) < (c : Int) := by omega
        have hm : c % 128 = c := Nat.mod_eq_of_lt (by omega)
        by_cases hB : c = 64 ∧ 0 < v
        · obtain ⟨hB1, hB2⟩ := hB
          have hBi : (0 : Int) < (v : Int) := by omega
          have hBc : ((c : Int) == 64) = true := by simp; omega
          have HRS := hid (show R = .form by rw [HRD.out, rdN, hc, if_neg (fun h => by omega), if_neg (by omega), hm, hq, if_pos (.inr (by subst hB1; subst hq8; omega))])
          clear HRD hc hB1 h8 hq hm hq8
          go_wp2_with (first | (refine opG_load1 (i := 1) (v := .int .i64 (p : Int)) rfl rfl rfl P.out rfl Try.underlying3 rfl ?_) | (refine opG_load1 (i := 2) (v := .int .i64 0) rfl rfl rfl P.out rfl Try.underlying3 rfl ?_) | (refine opG_load1 (i := 0) (v := .string (bs L)) rfl rfl rfl P.out rfl Try.underlying9 rfl ?_) | (refine opG_loadB rfl rfl rfl P.out Try.underlying63 rfl rfl ?_) | fail)
          refine (refFail05 L p 3 _).mono ?_
          rintro _ wf ⟨rfl, hb⟩
          replace HB := hid (Grow.trans HB.out hb)
          replace P := hid (grow_block P.out hb)
          replace Z := hid (grow_block Z.out hb)
          clear hb
          go_wp2_with (first | (refine store_block 63 _ _ gz 0 (rgL L p 3) (rgL [] 0 0) (rgL L p 3) 63 rfl rfl rfl rfl rfl Z.out (infoRgL _ _ _) (by simp) (oneRg _ _ _) rfl ?_) | fail)
          intro w5 hW hgr hbel
          replace P := hid (blk_other' hgr P.out (fun e => by have := Option.some.inj e; omega))
          replace HB := hid (show Grow w w5 from hbel _ _ HB.out ZL.out)
          replace Z := hid (show w5.heap[gz]? = some (.cells (rgL L p 3 : List Value).toArray 63 (0, 0)) from hW)
          clear hW hgr hbel
          go_wp2_with fail
          refine bodyPost_ret (ret_rgt rfl rfl Z.out rfl) rfl ⟨?_, HB.out⟩
          rw [HRS.out]; rfl
        · skip
          obtain ⟨x, hx⟩ : ∃ x : Nat, c * q = x := ⟨_, rfl⟩
          have hx9 : x ≤ 4611686018427387904 := by rw [← hx, hq8]; omega
          have hxi : (c : Int) * (q : Int) = (x : Int) := by rw [← hx]; push_cast; rfl
          have hmul : ∀ d : Nat, d = c → wrap64 ((d : Int) * (q : Int)) = (x : Int) := by rintro d rfl; rw [hxi]; exact IntWalk.wrap64_in _ (by omega)
          have hadd : (v : Int) + (x : Int) ≤ 9000000000000000000 := by omega
          have hv62 : ¬ 4611686018427387904 < v + x := by
            intro h
            apply hB
            have : c * q = x := hx
            rw [hq8] at this
            omega
          have hBc : (((c : Int) == 64) = true ∧ ¬ (0 : Int) < (v : Int)) ∨ ((c : Int) == 64) = false := by
            by_cases h : c = 64
            · left; exact ⟨by simp; omega, by omega⟩
            · right; simp; omega
          have hci : (c : Int) < 128 := by omega
          have hn0 : (0 : Int) < (n : Int) := by omega
          by_cases hz0 : c = 0
          · have hzi : ((c : Int) == 0) = true := by simp; omega
            have HRS := hid (show R = .form by rw [HRD.out, rdN, hc, if_neg (fun h => by omega), if_neg (by omega), if_pos (.inl ⟨by omega, hz0⟩)])
            clear HRD hc hx hxi hB h8 hq hm hq8
            rcases hBc with ⟨hBc, hBi⟩ | hBc
            · exact absurd hBc (by simp; omega)
            · skip
              go_wp2_with (first | (refine opG_load1 (i := 1) (v := .int .i64 (p : Int)) rfl rfl rfl P.out rfl Try.underlying3 rfl ?_) | (refine opG_load1 (i := 2) (v := .int .i64 0) rfl rfl rfl P.out rfl Try.underlying3 rfl ?_) | (refine opG_load1 (i := 0) (v := .string (bs L)) rfl rfl rfl P.out rfl Try.underlying9 rfl ?_) | (refine opG_loadB rfl rfl rfl P.out Try.underlying63 rfl rfl ?_) | fail)
              refine (refFail05 L p 3 _).mono ?_
              rintro _ wf ⟨rfl, hb⟩
              replace HB := hid (Grow.trans HB.out hb)
              replace P := hid (grow_block P.out hb)
              replace Z := hid (grow_block Z.out hb)
              clear hb
              go_wp2_with (first | (refine store_block 63 _ _ gz 0 (rgL L p 3) (rgL [] 0 0) (rgL L p 3) 63 rfl rfl rfl rfl rfl Z.out (infoRgL _ _ _) (by simp) (oneRg _ _ _) rfl ?_) | fail)
              intro w6 hW hgr hbel
              replace P := hid (blk_other' hgr P.out (fun e => by have := Option.some.inj e; omega))
              replace HB := hid (show Grow w w6 from hbel _ _ HB.out ZL.out)
              replace Z := hid (show w6.heap[gz]? = some (.cells (rgL L p 3 : List Value).toArray 63 (0, 0)) from hW)
              clear hW hgr hbel
              go_wp2_with fail
              refine bodyPost_ret (ret_rgt rfl rfl Z.out rfl) rfl ⟨?_, HB.out⟩
              rw [HRS.out]; rfl
          · skip
            have hzi : ((c : Int) == 0) = false := by simp; omega
            have HRS := hid (show R = .ok (v + x) (n + 1) by rw [HRD.out, rdN, hc, if_neg (fun h => by omega), if_neg (by omega), hm, hq, hx, if_neg (fun h => by rcases h with h | h; exact hz0 h.2; exact hv62 h)])
            clear HRD hc hx hxi hB h8 hq hm hq8
            have HBC := hid hBc
            clear hBc
            rcases HBC.out with ⟨hBc, hBi⟩ | hBc
            · skip
              go_wp2_with (first | (refine opG_load1 (i := 0) (v := (.string (bs L))) rfl rfl rfl P.out rfl Try.underlying9 rfl ?_) | (refine opG_load1 (i := 1) (v := (.int .i64 (p : Int))) rfl rfl rfl P.out rfl Try.underlying3 rfl ?_) | (refine opG_load1 (i := 2) (v := (.int .i64 0)) rfl rfl rfl P.out rfl Try.underlying3 rfl ?_) | (refine op_store1 (g := gp) (i := 1) (v := .int .i64 ((p + (n + 1) : Nat) : Int)) rfl rfl rfl rfl (by first | rfl | (go_simp; done) | (go_simp; rfl)) P.out rfl rfl (infoInt') (by simp) ?_) | fail)
              intro w7 hW hgr hbel
              replace Z := hid (blk_other' hgr Z.out (fun e => by have := Option.some.inj e; omega))
              replace HB := hid (show Grow w w7 from hbel _ _ HB.out PL.out)
              replace P := hid (show w7.heap[gp]? = some (rgOb L (p + (n + 1)) 0) from hW)
              clear hW hgr hbel
              go_wp2_with (first | (refine opG_loadB rfl rfl rfl P.out Try.underlying63 rfl rfl ?_) | (refine store_block 63 _ _ gz 0 (rgL L (p + (n + 1)) 0) (rgL [] 0 0) (rgL L (p + (n + 1)) 0) 63 rfl rfl rfl rfl rfl Z.out (infoRgL _ _ _) (by simp) (oneRg _ _ _) rfl ?_) | fail)
              intro w8 hW hgr hbel
              replace P := hid (blk_other' hgr P.out (fun e => by have := Option.some.inj e; omega))
              replace HB := hid (show Grow w w8 from hbel _ _ HB.out ZL.out)
              replace Z := hid (show w8.heap[gz]? = some (.cells (rgL L (p + (n + 1)) 0 : List Value).toArray 63 (0, 0)) from hW)
              clear hW hgr hbel
              go_wp2_with fail
              refine bodyPost_ret (ret_rgt rfl rfl Z.out rfl) rfl ⟨?_, HB.out⟩
              rw [HRS.out]
              first | rfl | (show _ = Ended.returned _; simp [valR, posR, errR])
            · skip
              go_wp2_with (first | (refine opG_load1 (i := 0) (v := (.string (bs L))) rfl rfl rfl P.out rfl Try.underlying9 rfl ?_) | (refine opG_load1 (i := 1) (v := (.int .i64 (p : Int))) rfl rfl rfl P.out rfl Try.underlying3 rfl ?_) | (refine opG_load1 (i := 2) (v := (.int .i64 0)) rfl rfl rfl P.out rfl Try.underlying3 rfl ?_) | (refine opG_loadB rfl rfl rfl P.out Try.underlying63 rfl rfl ?_) | (refine op_store1 (g := gp) (i := 1) (v := .int .i64 ((p + (n + 1) : Nat) : Int)) rfl rfl rfl rfl (by first | rfl | (go_simp; done) | (go_simp; rfl)) P.out rfl rfl (infoInt') (by simp) ?_) | fail)
              intro w9 hW hgr hbel
              replace Z := hid (blk_other' hgr Z.out (fun e => by have := Option.some.inj e; omega))
              replace HB := hid (show Grow w w9 from hbel _ _ HB.out PL.out)
              replace P := hid (show w9.heap[gp]? = some (rgOb L (p + (n + 1)) 0) from hW)
              clear hW hgr hbel
              go_wp2_with (first | (refine opG_loadB rfl rfl rfl P.out Try.underlying63 rfl rfl ?_) | (refine opG_loadB rfl rfl rfl P.out Try.underlying63 rfl rfl ?_) | (refine store_block 63 _ _ gz 0 (rgL L (p + (n + 1)) 0) (rgL [] 0 0) (rgL L (p + (n + 1)) 0) 63 rfl rfl rfl rfl rfl Z.out (infoRgL _ _ _) (by simp) (oneRg _ _ _) rfl ?_) | fail)
              intro w10 hW hgr hbel
              replace P := hid (blk_other' hgr P.out (fun e => by have := Option.some.inj e; omega))
              replace HB := hid (show Grow w w10 from hbel _ _ HB.out ZL.out)
              replace Z := hid (show w10.heap[gz]? = some (.cells (rgL L (p + (n + 1)) 0 : List Value).toArray 63 (0, 0)) from hW)
              clear hW hgr hbel
              go_wp2_with fail
              refine bodyPost_ret (ret_rgt rfl rfl Z.out rfl) rfl ⟨?_, HB.out⟩
              rw [HRS.out]
              first | rfl | (show _ = Ended.returned _; simp [valR, posR, errR])
      have h8i : (n : Int) < 8 := by omega
      have h8e : ((n : Int) == 8) = false := by simp; omega
      obtain ⟨m, hm⟩ : ∃ m : Nat, c % 128 = m := ⟨_, rfl⟩
      have hm7 : m ≤ 127 := by omega
      have hrem : ∀ d : Nat, d = c → ((d : Int) % 128) = (m : Int) := by rintro d rfl; omega
      have hq7 : q ≤ 562949953421312 := by rw [← hq]; exact Nat.le_trans (Nat.pow_le_pow_right (by decide) (show 7 * n ≤ 49 by omega)) (by decide)
      obtain ⟨x, hx⟩ : ∃ x : Nat, m * q = x := ⟨_, rfl⟩
      have hxb : x ≤ 127 * q := by rw [← hx]; exact Nat.mul_le_mul_right _ hm7
      have hxi : (m : Int) * (q : Int) = (x : Int) := by rw [← hx]; push_cast; rfl
      have hmul : ∀ d : Nat, d = m → wrap64 ((d : Int) * (q : Int)) = (x : Int) := by rintro d rfl; rw [hxi]; exact IntWalk.wrap64_in _ (by omega)
      have hadd : (v : Int) + (x : Int) ≤ 9000000000000000000 := by omega
      have h128 : (128 : Int) * (q : Int) ≤ 72057594037927936 := by omega
      have hv62 : ¬ 4611686018427387904 < v + x := by omega
      by_cases hcl : c < 128
      · have hci : (c : Int) < 128 := by omega
        by_cases hz0 : 0 < n ∧ c = 0
        · obtain ⟨hz1, hz2⟩ := hz0
          have hn0 : (0 : Int) < (n : Int) := by omega
          have hzi : ((c : Int) == 0) = true := by simp; omega
          have HRS := hid (show R = .form by rw [HRD.out, rdN, hc, if_neg (fun h => by omega), if_neg (by omega), if_pos (.inl ⟨by omega, hz2⟩)])
          clear HRD hc hx hxi
          go_wp2_with (first | (refine opG_load1 (i := 1) (v := .int .i64 (p : Int)) rfl rfl rfl P.out rfl Try.underlying3 rfl ?_) | (refine opG_load1 (i := 2) (v := .int .i64 0) rfl rfl rfl P.out rfl Try.underlying3 rfl ?_) | (refine opG_load1 (i := 0) (v := .string (bs L)) rfl rfl rfl P.out rfl Try.underlying9 rfl ?_) | (refine opG_loadB rfl rfl rfl P.out Try.underlying63 rfl rfl ?_) | fail)
          refine (refFail05 L p 3 _).mono ?_
          rintro _ wf ⟨rfl, hb⟩
          replace HB := hid (Grow.trans HB.out hb)
          replace P := hid (grow_block P.out hb)
          replace Z := hid (grow_block Z.out hb)
          clear hb
          go_wp2_with (first | (refine opG_loadB rfl rfl rfl P.out Try.underlying63 rfl rfl ?_) | (refine opG_loadB rfl rfl rfl P.out Try.underlying63 rfl rfl ?_) | (refine store_block 63 _ _ gz 0 (rgL L p 3) (rgL [] 0 0) (rgL L p 3) 63 rfl rfl rfl rfl rfl Z.out (infoRgL _ _ _) (by simp) (oneRg _ _ _) rfl ?_) | fail)
          intro w11 hW hgr hbel
          replace P := hid (blk_other' hgr P.out (fun e => by have := Option.some.inj e; omega))
          replace HB := hid (show Grow w w11 from hbel _ _ HB.out ZL.out)
          replace Z := hid (show w11.heap[gz]? = some (.cells (rgL L p 3 : List Value).toArray 63 (0, 0)) from hW)
          clear hW hgr hbel
          go_wp2_with fail
          refine bodyPost_ret (ret_rgt rfl rfl Z.out rfl) rfl ⟨?_, HB.out⟩
          rw [HRS.out]; rfl
        · skip
          have HRS := hid (show R = .ok (v + x) (n + 1) by rw [HRD.out, rdN, hc, if_neg (fun h => by omega), if_neg (by omega), hm, hq, hx, if_neg (fun h => by rcases h with h | h; exact hz0 ⟨by omega, h.2⟩; exact hv62 h)])
          have hzz : ((0 : Int) < (n : Int) ∧ ((c : Int) == 0) = false) ∨ ¬ (0 : Int) < (n : Int) := by
            by_cases h : 0 < n
            · left; exact ⟨by omega, by simp; omega⟩
            · right; omega
          clear HRD hc hx hxi hz0
          have HZZ := hid hzz
          clear hzz
          rcases HZZ.out with ⟨hn0, hzi⟩ | hn0
          · skip
            go_wp2_with (first | (refine opG_load1 (i := 0) (v := (.string (bs L))) rfl rfl rfl P.out rfl Try.underlying9 rfl ?_) | (refine opG_load1 (i := 1) (v := (.int .i64 (p : Int))) rfl rfl rfl P.out rfl Try.underlying3 rfl ?_) | (refine opG_load1 (i := 2) (v := (.int .i64 0)) rfl rfl rfl P.out rfl Try.underlying3 rfl ?_) | (refine opG_loadB rfl rfl rfl P.out Try.underlying63 rfl rfl ?_) | (refine opG_loadB rfl rfl rfl P.out Try.underlying63 rfl rfl ?_) | (refine op_store1 (g := gp) (i := 1) (v := .int .i64 ((p + (n + 1) : Nat) : Int)) rfl rfl rfl rfl (by first | rfl | (go_simp; done) | (go_simp; rfl)) P.out rfl rfl (infoInt') (by simp) ?_) | fail)
            intro w12 hW hgr hbel
            replace Z := hid (blk_other' hgr Z.out (fun e => by have := Option.some.inj e; omega))
            replace HB := hid (show Grow w w12 from hbel _ _ HB.out PL.out)
            replace P := hid (show w12.heap[gp]? = some (rgOb L (p + (n + 1)) 0) from hW)
            clear hW hgr hbel
            go_wp2_with (first | (refine opG_loadB rfl rfl rfl P.out Try.underlying63 rfl rfl ?_) | (refine opG_loadB rfl rfl rfl P.out Try.underlying63 rfl rfl ?_) | (refine opG_loadB rfl rfl rfl P.out Try.underlying63 rfl rfl ?_) | (refine store_block 63 _ _ gz 0 (rgL L (p + (n + 1)) 0) (rgL [] 0 0) (rgL L (p + (n + 1)) 0) 63 rfl rfl rfl rfl rfl Z.out (infoRgL _ _ _) (by simp) (oneRg _ _ _) rfl ?_) | fail)
            intro w13 hW hgr hbel
            replace P := hid (blk_other' hgr P.out (fun e => by have := Option.some.inj e; omega))
            replace HB := hid (show Grow w w13 from hbel _ _ HB.out ZL.out)
            replace Z := hid (show w13.heap[gz]? = some (.cells (rgL L (p + (n + 1)) 0 : List Value).toArray 63 (0, 0)) from hW)
            clear hW hgr hbel
            go_wp2_with fail
            refine bodyPost_ret (ret_rgt rfl rfl Z.out rfl) rfl ⟨?_, HB.out⟩
            rw [HRS.out]
            first | rfl | (show _ = Ended.returned _; simp [valR, posR, errR])
          · skip
            go_wp2_with (first | (refine opG_load1 (i := 0) (v := (.string (bs L))) rfl rfl rfl P.out rfl Try.underlying9 rfl ?_) | (refine opG_load1 (i := 1) (v := (.int .i64 (p : Int))) rfl rfl rfl P.out rfl Try.underlying3 rfl ?_) | (refine opG_load1 (i := 2) (v := (.int .i64 0)) rfl rfl rfl P.out rfl Try.underlying3 rfl ?_) | (refine opG_loadB rfl rfl rfl P.out Try.underlying63 rfl rfl ?_) | (refine opG_loadB rfl rfl rfl P.out Try.underlying63 rfl rfl ?_) | (refine opG_loadB rfl rfl rfl P.out Try.underlying63 rfl rfl ?_) | (refine op_store1 (g := gp) (i := 1) (v := .int .i64 ((p + (n + 1) : Nat) : Int)) rfl rfl rfl rfl (by first | rfl | (go_simp; done) | (go_simp; rfl)) P.out rfl rfl (infoInt') (by simp) ?_) | fail)
            intro w14 hW hgr hbel
            replace Z := hid (blk_other' hgr Z.out (fun e => by have := Option.some.inj e; omega))
            replace HB := hid (show Grow w w14 from hbel _ _ HB.out PL.out)
            replace P := hid (show w14.heap[gp]? = some (rgOb L (p + (n + 1)) 0) from hW)
            clear hW hgr hbel
            go_wp2_with (first | (refine opG_loadB rfl rfl rfl P.out Try.underlying63 rfl rfl ?_) | (refine opG_loadB rfl rfl rfl P.out Try.underlying63 rfl rfl ?_) | (refine opG_loadB rfl rfl rfl P.out Try.underlying63 rfl rfl ?_) | (refine opG_loadB rfl rfl rfl P.out Try.underlying63 rfl rfl ?_) | (refine store_block 63 _ _ gz 0 (rgL L (p + (n + 1)) 0) (rgL [] 0 0) (rgL L (p + (n + 1)) 0) 63 rfl rfl rfl rfl rfl Z.out (infoRgL _ _ _) (by simp) (oneRg _ _ _) rfl ?_) | fail)
            intro w15 hW hgr hbel
            replace P := hid (blk_other' hgr P.out (fun e => by have := Option.some.inj e; omega))
            replace HB := hid (show Grow w w15 from hbel _ _ HB.out ZL.out)
            replace Z := hid (show w15.heap[gz]? = some (.cells (rgL L (p + (n + 1)) 0 : List Value).toArray 63 (0, 0)) from hW)
            clear hW hgr hbel
            go_wp2_with fail
            refine bodyPost_ret (ret_rgt rfl rfl Z.out rfl) rfl ⟨?_, HB.out⟩
            rw [HRS.out]
            first | rfl | (show _ = Ended.returned _; simp [valR, posR, errR])
      · skip
        have hci : ¬ (c : Int) < 128 := by omega
        have HRS := hid (show R = rdN (n + 1) (v + x) l by rw [HRD.out, rdN, hc, if_neg (fun h => by omega), if_pos (by omega), hm, hq, hx])
        have hvx : v + x < 2 ^ (7 * (n + 1)) := by rw [pow7, hq]; omega
        have HVX := hid hvx
        have HN8 := hid (show n + 1 ≤ 8 by omega)
        have HQ := hid hq
        clear HRD hc hx hxi hvx hq
        go_wp2_with (first | (refine opG_load1 (i := 1) (v := .int .i64 (p : Int)) rfl rfl rfl P.out rfl Try.underlying3 rfl ?_) | (refine opG_load1 (i := 2) (v := .int .i64 0) rfl rfl rfl P.out rfl Try.underlying3 rfl ?_) | (refine opG_load1 (i := 0) (v := .string (bs L)) rfl rfl rfl P.out rfl Try.underlying9 rfl ?_) | fail)
        go_roundg (9 - (n + 1))
        case rel => exact ⟨n + 1, v + x, HN8.out, rfl, by go_num, by rw [pow7, HQ.out]; go_num, by go_num, by have := HLT.out; omega, HVX, P, Z, HB, hid (by rw [HD2.out]; exact HRS.out)⟩
        case measure => have := HN8.out; omega
end Go.Proofs.Ytabkaflccaklhaa
