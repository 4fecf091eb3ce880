/- keytree.rows, Of, Way: contracts. -/
import Derived.Test.YtabkaflccaklhaaGreatQKeyB
import Derived.Test.YtabkaflccaklhaaGreatQKeyC
import Derived.Test.YtabkaflccaklhaaGreatQKeyE
set_option linter.unusedSimpArgs false
set_option linter.unusedVariables false
namespace Go.Proofs.YtabkaflccaklhaaGreat
open Go.RowKit
open Go.Qk hiding rotr b4
set_option maxHeartbeats 1000000
set_option maxRecDepth 100000
theorem leafRow_eq (seed : ByteArray) (b n : Nat) : leafRow seed b n = (List.range n).map (fun (i : Nat) => leafOf seed i b) := rfl
theorem leafRow_length (seed : ByteArray) (b n : Nat) : (leafRow seed b n).length = n := by simp [leafRow]
theorem leafRow_32 (seed : ByteArray) (b n : Nat) : ∀ s ∈ leafRow seed b n, s.length = 32 := by
  intro s hs
  obtain ⟨l, _, rfl⟩ := List.mem_map.1 hs
  exact leafOf_length _ _ _
theorem ktRows (seed : ByteArray) (hs : seed.size ≤ 1000000) (b h : Nat) (hk : ktB b h = true) (w : World) :
    Calls Tryz.prog 97 #[.agg #[.int .i64 (b : Int), .int .i64 (h : Int)], .string seed] w (RetFold w.heap.size w (nodeOf seed b h 0) (foldRows h (leafRow seed b (2 ^ h)))) := by
  obtain ⟨b1, b2, b3, b4⟩ := kt_bounds hk
  have hpw : 2 ^ h ≤ 2 ^ 10 := Nat.pow_le_pow_right (by omega) (by omega)
  obtain ⟨n, hn⟩ : ∃ n, 2 ^ h = n := ⟨_, rfl⟩
  rw [hn] at hpw
  have HLV := hid (fun w => ktLeaves b h n (by rw [hk, ← hn]; simp) w)
  have HLF := hid (fun (i : Nat) (hi : i < n) w => lamLeaf seed i b hs (by omega) w)
  have hr : rightB (b : Int) = true := by simp [ktB] at hk; exact hk.1
  have HR1 := hid (fun (i : Nat) => show leafRes seed (i : Int) (b : Int) = leafOf seed i b by unfold leafRes; rw [if_pos (by rw [hr]; simp)]; rfl)
  have HR2 := hid (fun (i : Nat) => show leafErr (i : Int) (b : Int) = 0 by unfold leafErr; rw [if_pos (by rw [hr]; simp)])
  have HFD := hid (fun A c w (hx : IdRow w A (leafRow seed b n)) => ktFold A n c h (leafRow seed b n) w hx (leafRow_length _ _ _) hn.symm (by omega) (leafRow_32 _ _ _))
  have HTN := hid (foldTop_node seed b h)
  rw [hn] at HTN ⊢
  rw [HTN.out] at HFD
  have LN := hid (nodeOf_length seed b h 0)
  generalize nodeOf seed b h 0 = root at *
  have n1 : (n : Int) ≤ 1024 := by omega
  clear hk b1 b2 b3 b4 hn hr hpw HTN
  go_enter Tryz.func97, Tryz.ntmps97
  have HB := hid (grow_refl w)
  apply wp_seq_k; intro _ _; apply wp_region_lit
  refine op_boxC (cs := #[.int .i64 (b : Int), .int .i64 (h : Int)]) rfl rfl rfl rfl ?_
  intro gp w1 hgl hgu hb hr
  have PL := hid (Nat.le_trans HB.out.size hgl)
  replace HB := hid (Grow.trans HB.out hb)
  have P := hid hr; have PU := hid hgu
  clear hr hgl hgu hb
  try simp only [Act.put, List.setIfInBounds_toArray, List.set_cons_zero, List.set_cons_succ]
  refine op_alloc rfl rfl ?_
  intro gr w2 hgl hgu hb hr
  have HRL := hid (Nat.le_trans HB.out.size hgl)
  replace HB := hid (Grow.trans HB.out hb)
  replace P := hid (grow_block P.out hb)
  have HR := hid hr; have HRU := hid hgu
  clear hr hgl hgu hb
  try simp only [Act.put, List.setIfInBounds_toArray, List.set_cons_zero, List.set_cons_succ]
  go_wp2_with (first | (refine opG_loadB rfl rfl rfl P.out Tryz.underlying54 rfl rfl ?_) | (refine opG_load1 rfl rfl rfl P.out rfl Tryz.underlying3 rfl ?_) |  fail)
  refine (HLV.out _).mono ?_
  rintro e w3 ⟨rfl, hb⟩
  replace HB := hid (Grow.trans HB.out hb)
  replace P := hid (grow_block P.out hb)
  replace HR := hid (grow_block HR.out hb)
  clear hb
  have HRX := hid (show gr < w3.heap.size from blk_lt HR.out)
  go_wp2_with (refine op_makeIdsN (n := n) (fun i => leafOf seed i b) rfl rfl rfl rfl (by omega) ?_)
  intro g6 w6 hgl hgu hb hr
  have G6L := hid hgl
  have X6 := hid hr
  have HG := hid hb
  have HR6 := hid (Nat.le_trans HB.out.size hgl)
  clear hgl hgu hb hr
  go_wp2_with fail
  go_loopg [13] (n + 1) (fun z i wr => ∃ j : Nat, j ≤ n ∧ z = n + 1 - j ∧ i = .int .i64 (j : Int) ∧ Hid (wr.heap[g6]? = some (.cells (idCells (parRow (fun i => leafOf seed i b) n j)).toArray 42 (0, 0))) ∧ Hid (Grow w3 wr))
  case atStart => exact ⟨0, by omega, rfl, rfl, X6, HG⟩
  case round =>
    clear X6 HG
    obtain ⟨j, hj, hz, rfl, X6, HG⟩ := hrel
    have P0 := P
    replace P0 := hid (grow_block P0.out HG.out)
    by_cases hlt : j < n
    · have j0 : (0 : Int) ≤ (j : Int) := by omega
      have j1 : (j : Int) < (n : Int) := by omega
      have HPS := hid (parRow_set (fun i => leafOf seed i b) n j hlt)
      have LL := hid (leafOf_length seed j b)
      go_wp2_with (first | (refine opG_loadB rfl rfl rfl P0.out Tryz.underlying54 rfl rfl ?_) | (refine opG_load1 rfl rfl rfl P0.out rfl Tryz.underlying3 rfl ?_) |  fail)
      refine (HLF.out j hlt _).mono ?_
      rintro e w4 ⟨rfl, hb⟩
      replace P0 := hid (grow_block P0.out hb)
      replace X6 := hid (grow_block X6.out hb)
      replace HG := hid (Grow.trans HG.out hb)
      clear hb
      rw [HR1.out, HR2.out]
      go_wp2_with (refine op_storeIds (i := j) (xs := parRow (fun i => leafOf seed i b) n j) (l := leafOf seed j b) rfl rfl rfl rfl (by first | rfl | exact addr_add _ _) rfl LL.out X6.out (parRow_32 _ (fun _ => leafOf_length _ _ _) _ _) (by rw [parRow_length]; exact hlt) ?_)
      intro w8 hz8 _ hbl
      have X6' := hid hz8
      have HG' := hid (hbl _ _ HG.out G6L.out)
      rw [HPS.out] at X6'
      clear hz8 hbl
      go_wp2_with fail
      go_roundg (n + 1 - (j + 1))
      case rel => exact ⟨j + 1, by omega, rfl, by go_num, X6', HG'⟩
      case measure => omega
    · obtain rfl : j = n := by omega
      have HID := hid ((blk_own (B := 0) X6.out (Nat.zero_le _) (parRow_length _ _ _) (parRow_32 _ (fun _ => leafOf_length _ _ _) _ _) (by omega)).sl)
      rw [parRow_all, ← leafRow_eq] at HID
      obtain ⟨⟨A', c', e0, hrow⟩, _⟩ := HID.out
      have e1 := e0
      injection e1 with e2 e4 e3
      subst e2
      have HRW := hid hrow
      have HRz := hid (grow_block HR.out HG.out)
      have HBz := hid (Grow.trans HB.out HG.out)
      clear hrow e0 e3 e4 HID HR HB X6
      go_wp2_with fail
      refine (HFD.out _ j _ HRW.out).mono ?_
      rintro e w9 ⟨v, rfl, ho, hb⟩
      have HO := hid ho
      have HRy := hid (grow_block HRz.out hb)
      have HBy := hid (Grow.trans HBz.out hb)
      have HLT := hid (blk_lt HRz.out)
      have HSZ := hid HBz.out.size
      clear ho hb HRz HBz
      go_wp2_with (refine op_storeId (l := root) rfl rfl rfl rfl rfl HRy.out (by rfl) LN.out ?_)
      intro wz hz9 hgb hbz
      have HZ := hid hz9
      have HBZ := hid (hbz _ _ HBy.out HRL.out)
      have HRZ := hid (HO.out.store hgb HLT.out)
      clear hz9 hgb hbz
      go_wp2_with fail
      refine bodyPost_ret (ret_idt rfl rfl HZ.out LN.out) rfl ⟨_, rfl, ?_, HBZ.out⟩
      exact HRZ.out.base HSZ.out
end Go.Proofs.YtabkaflccaklhaaGreat
