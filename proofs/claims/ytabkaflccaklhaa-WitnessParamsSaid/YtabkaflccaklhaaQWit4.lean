/- witness.grow: contract. -/
import Derived.Test.YtabkaflccaklhaaQWit3
import Derived.Test.YtabkaflccaklhaaQMerP
set_option linter.unusedSimpArgs false
set_option linter.unusedVariables false
namespace Go.Proofs.Ytabkaflccaklhaa
open Go.RowKit
open Go.Qk hiding rotr b4
set_option maxHeartbeats 1000000
set_option maxRecDepth 100000
theorem list_succ {n : Nat} {l : List UInt8} (h : l.length = n + 1) : ∃ b m, l = b :: m ∧ m.length = n := by
  cases l with
  | nil => simp at h
  | cons b m => exact ⟨b, m, rfl, by simpa using h⟩
theorem list8 {n : Nat} {l : List UInt8} (h : l.length = n + 8) : ∃ b0 b1 b2 b3 b4 b5 b6 b7 m, l = b0 :: b1 :: b2 :: b3 :: b4 :: b5 :: b6 :: b7 :: m ∧ m.length = n := by
  obtain ⟨b0, l0, rfl, h0⟩ := list_succ (n := n + 7) h
  obtain ⟨b1, l1, rfl, h1⟩ := list_succ (n := n + 6) h0
  obtain ⟨b2, l2, rfl, h2⟩ := list_succ (n := n + 5) h1
  obtain ⟨b3, l3, rfl, h3⟩ := list_succ (n := n + 4) h2
  obtain ⟨b4, l4, rfl, h4⟩ := list_succ (n := n + 3) h3
  obtain ⟨b5, l5, rfl, h5⟩ := list_succ (n := n + 2) h4
  obtain ⟨b6, l6, rfl, h6⟩ := list_succ (n := n + 1) h5
  obtain ⟨b7, l7, rfl, h7⟩ := list_succ (n := n) h6
  exact ⟨b0, b1, b2, b3, b4, b5, b6, b7, l7, rfl, h7⟩
/-- A list of 32, byte by byte. -/
theorem list32 {l : List UInt8} (h : l.length = 32) : ∃ a0 a1 a2 a3 a4 a5 a6 a7 b0 b1 b2 b3 b4 b5 b6 b7 c0 c1 c2 c3 c4 c5 c6 c7 d0 d1 d2 d3 d4 d5 d6 d7,
    l = [a0, a1, a2, a3, a4, a5, a6, a7, b0, b1, b2, b3, b4, b5, b6, b7, c0, c1, c2, c3, c4, c5, c6, c7, d0, d1, d2, d3, d4, d5, d6, d7] := by
  obtain ⟨a0, a1, a2, a3, a4, a5, a6, a7, l1, rfl, h1⟩ := list8 (n := 24) h
  obtain ⟨b0, b1, b2, b3, b4, b5, b6, b7, l2, rfl, h2⟩ := list8 (n := 16) h1
  obtain ⟨c0, c1, c2, c3, c4, c5, c6, c7, l3, rfl, h3⟩ := list8 (n := 8) h2
  obtain ⟨d0, d1, d2, d3, d4, d5, d6, d7, l4, rfl, h4⟩ := list8 (n := 0) h3
  obtain rfl : l4 = [] := List.eq_nil_of_length_eq_zero h4
  exact ⟨a0, a1, a2, a3, a4, a5, a6, a7, b0, b1, b2, b3, b4, b5, b6, b7, c0, c1, c2, c3, c4, c5, c6, c7, d0, d1, d2, d3, d4, d5, d6, d7, rfl⟩
/-- A seed's tree: its rows, its root. -/
def ownC (v : Value) (root : IdK) : List Value := v :: u8s root
theorem run_buildOwn (A : Option Addr) (m c : Nat) (root : IdK) (hl : root.length = 32) (w : World) :
    (Instr.build 248 #[(0, .slice A m c), (1, idV root)]).run Try.prog w = .ok (.agg (ownC (.slice A m c) root).toArray) w := by
  obtain ⟨a0, a1, a2, a3, a4, a5, a6, a7, b0, b1, b2, b3, b4, b5, b6, b7, c0, c1, c2, c3, c4, c5, c6, c7, d0, d1, d2, d3, d4, d5, d6, d7, rfl⟩ := list32 hl
  exact run_build w _ _ _ (by kernel_rfl)
theorem ownC_length {v : Value} {root : IdK} (hl : root.length = 32) : (ownC v root).length = 33 := by simp [ownC, u8s_length, hl]
theorem ownC_one (A : Option Addr) (m c : Nat) (root : IdK) : ∀ u ∈ ownC (.slice A m c) root, u.oneCell' = true := by
  intro u hu
  rcases List.mem_cons.1 hu with rfl | h
  · rfl
  · exact u8s_one _ _ h
theorem infoOwn : (Try.prog.info? 248).map (·.size) = some 33 := by kernel_rfl
theorem wGrow (seed : ByteArray) (hs : seed.size ≤ 1000000) (b h : Nat) (hk : ktB b h = true) (w : World) :
    Calls Try.prog 166 #[.agg #[.int .i64 (b : Int), .int .i64 (h : Int)], .string seed] w fun e w' => ∃ v, e = .returned (.agg (ownC v (nodeOf seed b h 0)).toArray) ∧ OwnRows w.heap.size w' v (foldRows h (leafRow seed b (2 ^ h))) ∧ Below w.heap.size w w' := by
  obtain ⟨b1, b2, b3, b4⟩ := kt_bounds hk
  have hpw : 2 ^ h ≤ 2 ^ 10 := Nat.pow_le_pow_right (by omega) (by omega)
  obtain ⟨n, hn⟩ : ∃ n, 2 ^ h = n := ⟨_, rfl⟩
  rw [hn] at hpw
  have HLV := hid (fun w => ktLeaves b h n (by rw [hk, ← hn]; simp) w)
  have HLF := hid (fun (i : Nat) (hi : i < n) w => lamLeaf seed i b hs (by omega) w)
  have hr : rightB (b : Int) = true := by simp [ktB] at hk; exact hk.1
  have HR1 := hid (fun (i : Nat) => show leafRes seed (i : Int) (b : Int) = leafOf seed i b by unfold leafRes; rw [if_pos (by rw [hr]; simp)]; rfl)
  have HR2 := hid (fun (i : Nat) => show leafErr (i : Int) (b : Int) = 0 by unfold leafErr; rw [if_pos (by rw [hr]; simp)])
  have HFD := hid (fun A c w (hx : IdRow w A (leafRow seed b n)) => ktFold A n c h (leafRow seed b n) w hx (leafRow_length _ _ _) hn.symm (by omega) (leafRow_32 _ _ _))
  have HTN := hid (foldTop_node seed b h)
  rw [hn] at HTN ⊢
  rw [HTN.out] at HFD
  have LN := hid (nodeOf_length seed b h 0)
  generalize nodeOf seed b h 0 = root at *
  have n1 : (n : Int) ≤ 1024 := by omega
  clear hk b1 b2 b3 b4 hn hr hpw HTN
  go_enter Try.func166, Try.ntmps166
  have HB := hid (grow_refl w)
  apply wp_seq_k; intro _ _; apply wp_region_lit
  refine op_boxC (cs := #[.int .i64 (b : Int), .int .i64 (h : Int)]) rfl rfl rfl rfl ?_
  intro gp w1 hgl hgu hb hr
  have PL := hid (Nat.le_trans HB.out.size hgl)
  replace HB := hid (Grow.trans HB.out hb)
  have P := hid hr; have PU := hid hgu
  clear hr hgl hgu hb
  try simp only [Act.put, List.setIfInBounds_toArray, List.set_cons_zero, List.set_cons_succ]
  refine op_allocC (z := undef) (cs := (ownC (.slice none 0 0) (List.replicate 32 0)).toArray) rfl rfl (fun w => by kernel_rfl) ?_
  intro gr wr hgl hgu hb hr
  have HRL := hid (Nat.le_trans HB.out.size hgl)
  replace HB := hid (Grow.trans HB.out hb)
  replace P := hid (grow_block P.out hb)
  clear hb
  have HR := hid hr
  clear hr hgl hgu
  try simp only [Act.put, List.setIfInBounds_toArray, List.set_cons_zero, List.set_cons_succ]
  go_wp2_with (first | (refine opG_loadB rfl rfl rfl P.out Try.underlying92 rfl rfl ?_) | (refine opG_load1 rfl rfl rfl P.out rfl Try.underlying3 rfl ?_) |  fail)
  refine (HLV.out _).mono ?_
  rintro e w2 ⟨rfl, hb⟩
  replace HB := hid (Grow.trans HB.out hb)
  replace P := hid (grow_block P.out hb)
  replace HR := hid (grow_block HR.out hb)
  clear hb
  have HRX := hid (show gr < w2.heap.size from blk_lt HR.out)
  go_wp2_with (refine op_makeIdsN (n := n) (fun i => leafOf seed i b) rfl rfl rfl rfl (by omega) ?_)
  intro g6 w6 hgl hgu hb hr
  have G6L := hid hgl
  have X6 := hid hr
  have HG := hid hb
  have HR6 := hid (Nat.le_trans HB.out.size hgl)
  clear hgl hgu hb hr
  go_wp2_with fail
  go_loopg [14] (n + 1) (fun z i wr => ∃ j : Nat, j ≤ n ∧ z = n + 1 - j ∧ i = .int .i64 (j : Int) ∧ Hid (wr.heap[g6]? = some (.cells (idCells (parRow (fun i => leafOf seed i b) n j)).toArray 25 (0, 0))) ∧ Hid (Grow w2 wr))
  case atStart => exact ⟨0, by omega, rfl, rfl, X6, HG⟩
  case round =>
    clear X6 HG
    obtain ⟨j, hj, hz, rfl, X6, HG⟩ := hrel
    have P0 := P
    replace P0 := hid (grow_block P0.out HG.out)
    by_cases hlt : j < n
    · have j0 : (0 : Int) ≤ (j : Int) := by omega
      have j1 : (j : Int) < (n : Int) := by omega
      have HPS := hid (parRow_set (fun i => leafOf seed i b) n j hlt)
      have LL := hid (leafOf_length seed j b)
      go_wp2_with (first | (refine opG_loadB rfl rfl rfl P0.out Try.underlying92 rfl rfl ?_) | (refine opG_load1 rfl rfl rfl P0.out rfl Try.underlying3 rfl ?_) |  fail)
      refine (HLF.out j hlt _).mono ?_
      rintro e w3 ⟨rfl, hb⟩
      replace P0 := hid (grow_block P0.out hb)
      replace X6 := hid (grow_block X6.out hb)
      replace HG := hid (Grow.trans HG.out hb)
      clear hb
      rw [HR1.out, HR2.out]
      go_wp2_with (refine op_storeIds (i := j) (xs := parRow (fun i => leafOf seed i b) n j) (l := leafOf seed j b) rfl rfl rfl rfl (by first | rfl | exact addr_add _ _) rfl LL.out X6.out (parRow_32 _ (fun _ => leafOf_length _ _ _) _ _) (by rw [parRow_length]; exact hlt) ?_)
      intro w8 hz8 _ hbl
      have X6' := hid hz8
      have HG' := hid (hbl _ _ HG.out G6L.out)
      rw [HPS.out] at X6'
      clear hz8 hbl
      go_wp2_with fail
      go_roundg (n + 1 - (j + 1))
      case rel => exact ⟨j + 1, by omega, rfl, by go_num, X6', HG'⟩
      case measure => omega
    · obtain rfl : j = n := by omega
      have HID := hid ((blk_own (B := 0) X6.out (Nat.zero_le _) (parRow_length _ _ _) (parRow_32 _ (fun _ => leafOf_length _ _ _) _ _) (by omega)).sl)
      rw [parRow_all, ← leafRow_eq] at HID
      obtain ⟨⟨A', c', e0, hrow⟩, _⟩ := HID.out
      have e1 := e0
      injection e1 with e2 e4 e3
      subst e2
      have HRW := hid hrow
      have HRz := hid (grow_block HR.out HG.out)
      have HBz := hid (Grow.trans HB.out HG.out)
      clear hrow e0 e3 e4 HID HR HB X6
      go_wp2_with fail
      refine (HFD.out _ j _ HRW.out).mono ?_
      rintro e w9 ⟨v, rfl, ho, hb⟩
      have HO := hid ho
      have HRy := hid (grow_block HRz.out hb)
      have HBy := hid (Grow.trans HBz.out hb)
      have HLT := hid (blk_lt HRz.out)
      have HSZ := hid HBz.out.size
      clear ho hb HRz HBz
      obtain ⟨Ar, cr, rfl, _, _⟩ := HO.out.sl
      go_wp2_with (first | (refine op_allocstore (l := root) rfl rfl rfl rfl rfl rfl (fun _ => rfl) ⟨fun _ => rfl, LN.out⟩ ?_) | fail)
      intro g7 wy hgl hgu hb hr
      have X7 := hid hr
      replace HO := hid (HO.out.grow hb)
      replace HRy := hid (grow_block HRy.out hb)
      replace HBy := hid (Grow.trans HBy.out hb)
      clear hgl hgu hb hr
      have HBD := hid (fun w => run_buildOwn Ar (foldRows h (leafRow seed b j)).length cr root LN.out w)
      go_wp2_with (first | (refine op_loadId rfl rfl rfl X7.out LN.out ?_) | (refine opG_build (ps := #[(0, .slice Ar (foldRows h (leafRow seed b j)).length cr), (1, idV root)]) rfl rfl (by simp only [List.map_toArray, List.map_cons, List.map_nil]; rfl) HBD.out ?_) | (refine store_block 248 _ _ gr 0 (ownC (.slice Ar (foldRows h (leafRow seed b j)).length cr) root) (ownC (.slice none 0 0) (List.replicate 32 0)) (ownC (.slice Ar (foldRows h (leafRow seed b j)).length cr) root) 248 rfl rfl rfl rfl rfl HRy.out (by rw [infoOwn, ownC_length LN.out]) (by rw [ownC_length LN.out, ownC_length (by simp)]; omega) (ownC_one _ _ _ _) (by rw [List.take_zero, List.nil_append, List.drop_eq_nil_of_le (by rw [ownC_length LN.out, ownC_length (by simp)]; omega), List.append_nil]) ?_) | fail)
      intro wz hz9 hgb hbz
      have HZ := hid hz9
      have HBZ := hid (hbz _ _ HBy.out HRL.out)
      have HRZ := hid (HO.out.store hgb HLT.out)
      clear hz9 hgb hbz
      go_wp2_with fail
      refine bodyPost_ret (results_cell_row rfl _ _ gr _ _ _ _ rfl HZ.out Try.underlying248 rfl (by rw [infoOwn, List.size_toArray, ownC_length LN.out])) rfl ⟨_, rfl, ?_, HBZ.out⟩
      exact HRZ.out.base HSZ.out
end Go.Proofs.Ytabkaflccaklhaa
