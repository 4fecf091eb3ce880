/- The law SignerSigns: walk. -/
import Derived.Test.YtffgifegaagndaaQSig7
import Derived.Test.YtffgifegaagndaaQKeyL3
set_option linter.unusedSimpArgs false
set_option linter.unusedVariables false
namespace Go.Proofs.Ytffgifegaagndaa
open Go.RowKit
open Go.Qk hiding rotr b4
set_option maxHeartbeats 2000000
set_option maxRecDepth 100000
theorem op_allocstorePar {ops : Array Oper} {Q : Exit → Act → World → Prop} {rest : List Oper} {o o2 : Oper} {a : Act} {w : World} {d : Tmp} {y : Operand} {p q : Int} (hgd : o.guard = none) (ho : o.op = .alloc 44) (hd : o.dst = some d) (hgd2 : o2.guard = none) (hdst2 : o2.dst = none) (ho2 : o2.op = .store 44 (.tmp d) y)
    (hx : ∀ g, (a.put o.dst (.pointer (some ⟨g, 0, none⟩))).eval (.tmp d) = .pointer (some ⟨g, 0, none⟩)) (hy : ∀ g, (a.put o.dst (.pointer (some ⟨g, 0, none⟩))).eval y = .agg #[.int .i64 p, .int .i64 q])
    (h : ∀ g W, w.heap.size ≤ g → g < W.heap.size → Grow w W → W.heap[g]? = some (.cells #[.int .i64 p, .int .i64 q] 44 (0, 0)) → wpList Try.prog ops Q rest (a.put o.dst (.pointer (some ⟨g, 0, none⟩))) W) :
    wpList Try.prog ops Q (o :: o2 :: rest) a w := by
  refine op_allocC (z := undef) (cs := #[.int .i64 0, .int .i64 0]) hgd ho (fun w => by kernel_rfl) fun g W q1 q2 q3 q4 => ?_
  refine store_block 44 _ _ g 0 [.int .i64 p, .int .i64 q] [.int .i64 0, .int .i64 0] [.int .i64 p, .int .i64 q] 44 hgd2 hdst2 ho2 (hx g) (hy g) q4 (by kernel_rfl) (by simp) (by intro v hv; simp at hv; rcases hv with rfl | rfl <;> rfl) (by simp) ?_
  intro W' r1 r2 r3
  exact h g W' q1 (Nat.lt_of_lt_of_le q2 r2.size) (r3 _ _ q3 q1) r1
theorem fits_own (r x n m k : Nat) (hk : ktB 8 r = true) (hx : x < 2 ^ r) (hn : n = 8) (hm : m = 8) (hw : k = r) : fitsB 8 r x n m k = true := by
  subst hn hm hw
  unfold fitsB
  rw [hk, Int.toNat_natCast]
  generalize 2 ^ k = N at hx ⊢
  have h2 : decide ((0 : Int) ≤ (x : Int)) = true := by simp
  have h3 : decide ((x : Int) < (N : Int)) = true := by simp; omega
  rw [h2, h3]
  simp
theorem ver_own (seed : ByteArray) (r x : Nat) (sum : IdK) (hk : ktB 8 r = true) (hx : x < 2 ^ r) : verErr 8 r (ktOf seed 8 r) sum x (rowOf (shownG seed x sum) 8) (rowOf (hiddenG seed x sum) 8) (wayOf seed 8 r x) = 0 := by
  have hr : rightB ((8 : Nat) : Int) = true := by decide
  have e : rootOf sum x (rowOf (shownG seed x sum) 8) (rowOf (hiddenG seed x sum) 8) (wayOf seed 8 r x) = nodeOf seed 8 r 0 := by
    unfold rootOf
    rw [sign_rec seed x sum 8 hr, Int.toNat_natCast, climb_root seed 8 x r hx]
  unfold verErr
  rw [e, show keyOf 8 r (nodeOf seed 8 r 0) = ktOf seed 8 r from rfl, beq_self_eq_true, if_pos rfl]
theorem signerSigns_long (k : Nat) (hk : k < 256) (seed : ByteArray) (hsz : seed.size ≤ 140737488351232) (next : Int) (A : Option Addr) (m c : Nat) (xs : List IdK) (skip : Int) (w : World) (hx : IdRow w A xs) (hm : xs.length = m) (h32 : ∀ s ∈ xs, s.length = 32) (hlg : 100 < seed.size ∨ 6 < m) :
    Calls Try.prog 14 #[.int .u8 (k : Int), .string seed, .int .i64 next, .slice A m c, .int .i64 skip] w fun e w' => e = .returned (.bool true) ∧ Below w.heap.size w w' := by
  have b1 : m ≤ 9223372036854775807 := by rw [← hm]; exact hx.1
  clear hx hm h32
  by_cases h1 : 100 < seed.size
  · have t1 : decide ((100 : Int) < (seed.size : Int)) = true := by simp; omega
    clear hlg
    go_enter Try.func14, Try.ntmps14
    have HB := hid (grow_refl w)
    go_wp2_with fail
    refine (awake08 _).mono ?_
    rintro e w1 ⟨rfl, hb⟩
    replace HB := hid (Grow.trans HB.out hb)
    clear hb
    go_wp2
    go_ret
    exact ⟨rfl, HB.out⟩
  · have t1 : decide ((100 : Int) < (seed.size : Int)) = false := by simp; omega
    have t2 : decide ((6 : Int) < (m : Int)) = true := by simp; omega
    clear hlg
    go_enter Try.func14, Try.ntmps14
    have HB := hid (grow_refl w)
    go_wp2_with fail
    refine (awake08 _).mono ?_
    rintro e w2 ⟨rfl, hb⟩
    replace HB := hid (Grow.trans HB.out hb)
    clear hb
    go_wp2
    go_ret
    exact ⟨rfl, HB.out⟩
theorem signerSigns_out (k : Nat) (hk : k < 256) (seed : ByteArray) (hsz : seed.size ≤ 140737488351232) (next : Int) (A : Option Addr) (m c : Nat) (xs : List IdK) (skip : Int) (w : World) (hx : IdRow w A xs) (hm : xs.length = m) (h32 : ∀ s ∈ xs, s.length = 32) (hs100 : ¬ 100 < seed.size) (hm6 : ¬ 6 < m) (hnx : next < 0 ∨ ((2 ^ (k % 3) : Nat) : Int) < next) :
    Calls Try.prog 14 #[.int .u8 (k : Int), .string seed, .int .i64 next, .slice A m c, .int .i64 skip] w fun e w' => e = .returned (.bool true) ∧ Below w.heap.size w w' := by
  have b1 : m ≤ 9223372036854775807 := by rw [← hm]; exact hx.1
  have t1 : decide ((100 : Int) < (seed.size : Int)) = false := by simp; omega
  have t2 : decide ((6 : Int) < (m : Int)) = false := by simp; omega
  have hs : seed.size ≤ 1000000 := by omega
  obtain ⟨r, hr⟩ : ∃ r, r = k % 3 := ⟨_, rfl⟩
  have hr3 : r < 3 := by omega
  have HSM := hid (fun w => small8 k hk w)
  rw [← hr] at HSM hnx
  have hkt : ktB 8 r = true := by
    have : r = 0 ∨ r = 1 ∨ r = 2 := by omega
    rcases this with rfl | rfl | rfl <;> decide
  have HPW := hid (fun w => refPower7 r (by omega) w)
  obtain ⟨N, hN⟩ : ∃ N, N = 2 ^ r := ⟨_, rfl⟩
  have hN4 : N ≤ 4 := by
    have : r = 0 ∨ r = 1 ∨ r = 2 := by omega
    rcases this with rfl | rfl | rfl <;> omega
  rw [← hN] at HPW hnx
  have HNO := hid (fun w => sgNew_out 8 r seed hs next N hkt hN hnx w)
  clear hx hm h32 hk hr hr3 hkt hN
  by_cases h0 : next < 0
  · have t3 : decide (next < 0) = true := by simpa using h0
    clear hnx
    go_enter Try.func14, Try.ntmps14
    have HB := hid (grow_refl w)
    go_wp2_with fail
    refine (HSM.out _).mono ?_
    rintro e w1 ⟨rfl, hb⟩
    replace HB := hid (Grow.trans HB.out hb)
    clear hb
    go_wp2_with (refine op_allocstorePar rfl rfl rfl rfl rfl rfl (fun _ => rfl) (fun _ => rfl) ?_)
    intro g11 w11 hgl hgu hb hr
    replace HB := hid (Grow.trans HB.out hb)
    clear hb
    have P := hid hr
    clear hgl hgu hr
    go_wp2_with (first | (refine opG_loadB rfl rfl rfl P.out Try.underlying44 rfl rfl ?_) | (refine opG_load1 rfl rfl rfl P.out rfl Try.underlying3 rfl ?_) |  fail)
    refine (HPW.out _).mono ?_
    rintro e w2 ⟨rfl, hb⟩
    replace HB := hid (Grow.trans HB.out hb)
    replace P := hid (grow_block P.out hb)
    clear hb
    go_wp2_with (first | (refine opG_loadB rfl rfl rfl P.out Try.underlying44 rfl rfl ?_) | (refine opG_load1 rfl rfl rfl P.out rfl Try.underlying3 rfl ?_) |  fail)
    refine (HNO.out _).mono ?_
    rintro e w3 ⟨rfl, hb⟩
    replace HB := hid (Grow.trans HB.out hb)
    replace P := hid (grow_block P.out hb)
    clear hb
    go_wp2_with (first | (refine opG_loadB rfl rfl rfl P.out Try.underlying44 rfl rfl ?_) | (refine opG_load1 rfl rfl rfl P.out rfl Try.underlying3 rfl ?_) |  fail)
    refine (awake08 _).mono ?_
    rintro e w4 ⟨rfl, hb⟩
    replace HB := hid (Grow.trans HB.out hb)
    replace P := hid (grow_block P.out hb)
    clear hb
    go_wp2
    go_ret
    exact ⟨rfl, HB.out⟩
  · have t3 : decide (next < 0) = false := by simpa using h0
    have t4 : decide ((N : Int) < next) = true := by simp; omega
    clear hnx
    go_enter Try.func14, Try.ntmps14
    have HB := hid (grow_refl w)
    go_wp2_with fail
    refine (HSM.out _).mono ?_
    rintro e w5 ⟨rfl, hb⟩
    replace HB := hid (Grow.trans HB.out hb)
    clear hb
    go_wp2_with (refine op_allocstorePar rfl rfl rfl rfl rfl rfl (fun _ => rfl) (fun _ => rfl) ?_)
    intro g11 w11 hgl hgu hb hr
    replace HB := hid (Grow.trans HB.out hb)
    clear hb
    have P := hid hr
    clear hgl hgu hr
    go_wp2_with (first | (refine opG_loadB rfl rfl rfl P.out Try.underlying44 rfl rfl ?_) | (refine opG_load1 rfl rfl rfl P.out rfl Try.underlying3 rfl ?_) | (refine opG_loadB rfl rfl rfl P.out Try.underlying44 rfl rfl ?_) | (refine opG_load1 rfl rfl rfl P.out rfl Try.underlying3 rfl ?_) |  fail)
    refine (HPW.out _).mono ?_
    rintro e w6 ⟨rfl, hb⟩
    replace HB := hid (Grow.trans HB.out hb)
    replace P := hid (grow_block P.out hb)
    clear hb
    go_wp2_with (first | (refine opG_loadB rfl rfl rfl P.out Try.underlying44 rfl rfl ?_) | (refine opG_load1 rfl rfl rfl P.out rfl Try.underlying3 rfl ?_) | (refine opG_loadB rfl rfl rfl P.out Try.underlying44 rfl rfl ?_) | (refine opG_load1 rfl rfl rfl P.out rfl Try.underlying3 rfl ?_) |  fail)
    refine (HNO.out _).mono ?_
    rintro e w7 ⟨rfl, hb⟩
    replace HB := hid (Grow.trans HB.out hb)
    replace P := hid (grow_block P.out hb)
    clear hb
    go_wp2_with (first | (refine opG_loadB rfl rfl rfl P.out Try.underlying44 rfl rfl ?_) | (refine opG_load1 rfl rfl rfl P.out rfl Try.underlying3 rfl ?_) | (refine opG_loadB rfl rfl rfl P.out Try.underlying44 rfl rfl ?_) | (refine opG_load1 rfl rfl rfl P.out rfl Try.underlying3 rfl ?_) |  fail)
    refine (awake08 _).mono ?_
    rintro e w8 ⟨rfl, hb⟩
    replace HB := hid (Grow.trans HB.out hb)
    replace P := hid (grow_block P.out hb)
    clear hb
    go_wp2
    go_ret
    exact ⟨rfl, HB.out⟩
theorem signerSigns_good (k : Nat) (hk : k < 256) (seed : ByteArray) (hsz : seed.size ≤ 140737488351232) (next : Int) (A : Option Addr) (m c : Nat) (xs : List IdK) (skip : Int) (w : World) (hx : IdRow w A xs) (hm : xs.length = m) (h32 : ∀ s ∈ xs, s.length = 32) (hs100 : ¬ 100 < seed.size) (hm6 : ¬ 6 < m) (hnx : 0 ≤ next ∧ next ≤ ((2 ^ (k % 3) : Nat) : Int)) :
    Calls Try.prog 14 #[.int .u8 (k : Int), .string seed, .int .i64 next, .slice A m c, .int .i64 skip] w fun e w' => e = .returned (.bool true) ∧ Below w.heap.size w w' := by
  have b1 : m ≤ 9223372036854775807 := by rw [← hm]; exact hx.1
  have t1 : decide ((100 : Int) < (seed.size : Int)) = false := by simp; omega
  have t2 : decide ((6 : Int) < (m : Int)) = false := by simp; omega
  have hs : seed.size ≤ 1000000 := by omega
  obtain ⟨r, hr⟩ : ∃ r, r = k % 3 := ⟨_, rfl⟩
  have hr3 : r < 3 := by omega
  have HSM := hid (fun w => small8 k hk w)
  rw [← hr] at HSM hnx
  have hkt : ktB 8 r = true := by
    have : r = 0 ∨ r = 1 ∨ r = 2 := by omega
    rcases this with rfl | rfl | rfl <;> decide
  have HPW := hid (fun w => refPower7 r (by omega) w)
  obtain ⟨N, hN⟩ : ∃ N, N = 2 ^ r := ⟨_, rfl⟩
  have hN4 : N ≤ 4 := by
    have : r = 0 ∨ r = 1 ∨ r = 2 := by omega
    rcases this with rfl | rfl | rfl <;> omega
  rw [← hN] at HPW hnx
  have HNG := hid (fun w => sgNew 8 r seed hs next N hkt hN hnx w)
  have HO7 := hid (fun w => refOf7 seed hs 8 r (by omega) (by omega) w)
  have LK := hid (ktOf_length seed 8 r)
  have HVA := hid (fun (x : Nat) (s : IdK) (hx : x < N) => (show verErr 8 r (ktOf seed 8 r) s x (rowOf (shownG seed x s) 8) (rowOf (hiddenG seed x s) 8) (wayOf seed 8 r x) = 0 from ver_own seed r x s hkt (by rw [← hN]; exact hx)))
  obtain ⟨key, hkey⟩ : ∃ key, key = ktOf seed 8 r := ⟨_, rfl⟩
  rw [← hkey] at HNG HO7 LK HVA
  have HKT := hid hkt
  have HN2 := hid hN
  have HR3 := hid hr3
  have HNK := hid (show N = if ktB ((8 : Nat) : Int) ((r : Nat) : Int) then 2 ^ r else 0 by rw [show ktB ((8 : Nat) : Int) ((r : Nat) : Int) = true from hkt, if_pos rfl]; exact hN)
  have HB0 := hid (show ∀ w, (Instr.build 88 #[]).run Try.prog w = .ok (.agg nilSig) w from fun w => run_build w _ _ _ (by kernel_rfl))
  have HX := hid hx
  have HM := hid hm
  have H32 := hid h32
  obtain ⟨x0, rfl⟩ : ∃ n : Nat, next = (n : Int) := ⟨next.toNat, by omega⟩
  have XN0 := hid (show x0 ≤ N by omega)
  have t3 : decide ((x0 : Int) < 0) = false := by simp
  have t4 : decide (N < x0) = false := by simp; omega
  have m6 : (m : Int) ≤ 6 := by omega
  have hq1 := id_neq_self key LK.out
  have hq2 := id_guard .neq key key
  clear hx hm h32 hk hr hr3 hkt hN hnx hkey
  go_enter Try.func14, Try.ntmps14
  have HB := hid (grow_refl w)
  go_wp2_with fail
  refine (HSM.out _).mono ?_
  rintro e w1 ⟨rfl, hb⟩
  replace HB := hid (Grow.trans HB.out hb)
  clear hb
  go_wp2_with (refine op_allocstorePar rfl rfl rfl rfl rfl rfl (fun _ => rfl) (fun _ => rfl) ?_)
  intro g11 w11 hgl hgu hb hr
  replace HB := hid (Grow.trans HB.out hb)
  clear hb
  have P := hid hr
  clear hgl hgu hr
  go_wp2_with (first | (refine opG_loadB rfl rfl rfl P.out Try.underlying44 rfl rfl ?_) | (refine opG_load1 rfl rfl rfl P.out rfl Try.underlying3 rfl ?_) |  fail)
  refine (HPW.out _).mono ?_
  rintro e w2 ⟨rfl, hb⟩
  replace HB := hid (Grow.trans HB.out hb)
  replace P := hid (grow_block P.out hb)
  clear hb
  go_wp2_with (first | (refine opG_loadB rfl rfl rfl P.out Try.underlying44 rfl rfl ?_) | (refine opG_load1 rfl rfl rfl P.out rfl Try.underlying3 rfl ?_) |  fail)
  have HP11 := hid (blk_lt P.out)
  refine (HNG.out _).mono ?_
  rintro e wn ⟨g, rfl, hgB, hg, hb⟩
  have NE11 := hid (show g11 ≠ g by have := HP11.out; omega)
  have GB := hid (Nat.le_trans HB.out.size hgB)
  replace HB := hid (Grow.trans HB.out hb)
  replace P := hid (grow_block P.out hb)
  clear hb
  have HG := hid hg
  clear hgB hg
  go_wp2_with fail
  (refine' wp_region_head 14 0 [_, _, _, _, _, _, _, _, _, _, _, _, _, _] rfl (by kernel_rfl) (by kernel_rfl) ?hreg1; case' hreg1 => simp only [List.take_succ_cons, List.take_zero, List.zip_cons_cons, List.zip_nil_right, List.drop_succ_cons, List.drop_zero, List.drop_nil])
  (refine' head_val ?dw2 ?de2 ?dr2 ?dh2; (case' dw2 => rfl); (case' de2 => (first | exact fun _ _ _ => trivial | (intro t ht w; cases ht; simp [upE]))); (case' dr2 => (intro w' hw' _; go_simp; with_reducible rfl)); (case' dh2 => (try simp only [Act.put, List.setIfInBounds_toArray, List.set_cons_zero, List.set_cons_succ]))); (refine' head_val ?dw3 ?de3 ?dr3 ?dh3; (case' dw3 => rfl); (case' de3 => (first | exact fun _ _ _ => trivial | (intro t ht w; cases ht; simp [upE]))); (case' dr3 => (intro w' hw' _; go_simp; with_reducible rfl)); (case' dh3 => (try simp only [Act.put, List.setIfInBounds_toArray, List.set_cons_zero, List.set_cons_succ]))); (refine' head_val ?dw4 ?de4 ?dr4 ?dh4; (case' dw4 => rfl); (case' de4 => (first | exact fun _ _ _ => trivial | (intro t ht w; cases ht; simp [upE]))); (case' dr4 => (intro w' hw' _; go_simp; with_reducible rfl)); (case' dh4 => (try simp only [Act.put, List.setIfInBounds_toArray, List.set_cons_zero, List.set_cons_succ]))); (refine' head_val ?dw5 ?de5 ?dr5 ?dh5; (case' dw5 => rfl); (case' de5 => (first | exact fun _ _ _ => trivial | (intro t ht w; cases ht; simp [upE]))); (case' dr5 => (intro w' hw' _; go_simp; with_reducible rfl)); (case' dh5 => (try simp only [Act.put, List.setIfInBounds_toArray, List.set_cons_zero, List.set_cons_succ]))); (refine' head_val ?dw6 ?de6 ?dr6 ?dh6; (case' dw6 => rfl); (case' de6 => (first | exact fun _ _ _ => trivial | (intro t ht w; cases ht; simp [upE]))); (case' dr6 => (intro w' hw' _; go_simp; with_reducible rfl)); (case' dh6 => (try simp only [Act.put, List.setIfInBounds_toArray, List.set_cons_zero, List.set_cons_succ]))); (refine' head_val ?dw7 ?de7 ?dr7 ?dh7; (case' dw7 => rfl); (case' de7 => (first | exact fun _ _ _ => trivial | (intro t ht w; cases ht; simp [upE]))); (case' dr7 => (intro w' hw' _; go_simp; with_reducible rfl)); (case' dh7 => (try simp only [Act.put, List.setIfInBounds_toArray, List.set_cons_zero, List.set_cons_succ]))); (refine' head_val ?dw8 ?de8 ?dr8 ?dh8; (case' dw8 => rfl); (case' de8 => (first | exact fun _ _ _ => trivial | (intro t ht w; cases ht; simp [upE]))); (case' dr8 => (intro w' hw' _; go_simp; with_reducible rfl)); (case' dh8 => (try simp only [Act.put, List.setIfInBounds_toArray, List.set_cons_zero, List.set_cons_succ]))); (refine' head_val ?dw9 ?de9 ?dr9 ?dh9; (case' dw9 => rfl); (case' de9 => (first | exact fun _ _ _ => trivial | (intro t ht w; cases ht; simp [upE]))); (case' dr9 => (intro w' hw' _; go_simp; with_reducible rfl)); (case' dh9 => (try simp only [Act.put, List.setIfInBounds_toArray, List.set_cons_zero, List.set_cons_succ])))
  (refine' head_call ?cw10 ?ce10 ?cr10 ?cc10 ?ch10; (case' cw10 => rfl); (case' ce10 => (first | exact fun _ _ _ => trivial | (intro t ht w; cases ht; simp [upE]))); (case' cr10 => (intro w'; go_simp; first | exact ⟨rfl, rfl⟩ | with_reducible rfl)); (case' cc10 => (intro w' hw' _; exact sgKey g 8 r seed key x0 LK.out w' (grow_block HG.out hw'))); (case' ch10 => (try simp only [Act.put, List.setIfInBounds_toArray, List.set_cons_zero, List.set_cons_succ])))
  (refine' head_loadB rfl ?_ rfl rfl P.out Try.underlying44 rfl rfl ?_; (first | exact fun _ _ _ => trivial | (intro t ht w; cases ht; simp [upE])); try simp only [Act.put, List.setIfInBounds_toArray, List.set_cons_zero, List.set_cons_succ])
  (refine' head_val ?dw11 ?de11 ?dr11 ?dh11; (case' dw11 => rfl); (case' de11 => (first | exact fun _ _ _ => trivial | (intro t ht w; cases ht; simp [upE]))); (case' dr11 => (intro w' hw' _; go_simp; with_reducible rfl)); (case' dh11 => (try simp only [Act.put, List.setIfInBounds_toArray, List.set_cons_zero, List.set_cons_succ])))
  (refine' head_call ?cw12 ?ce12 ?cr12 ?cc12 ?ch12; (case' cw12 => rfl); (case' ce12 => (first | exact fun _ _ _ => trivial | (intro t ht w; cases ht; simp [upE]))); (case' cr12 => (intro w'; go_simp; first | exact ⟨rfl, rfl⟩ | with_reducible rfl)); (case' cc12 => (intro w' hw' _; exact HO7.out w')); (case' ch12 => (try simp only [Act.put, List.setIfInBounds_toArray, List.set_cons_zero, List.set_cons_succ])))
  (refine' head_val ?dw13 ?de13 ?dr13 ?dh13; (case' dw13 => rfl); (case' de13 => (first | exact fun _ _ _ => trivial | (intro t ht w; cases ht; simp [upE]))); (case' dr13 => (intro w' hw' _; go_simp; with_reducible rfl)); (case' dh13 => (try simp only [Act.put, List.setIfInBounds_toArray, List.set_cons_zero, List.set_cons_succ]))); (refine' head_val ?dw14 ?de14 ?dr14 ?dh14; (case' dw14 => rfl); (case' de14 => (first | exact fun _ _ _ => trivial | (intro t ht w; cases ht; simp [upE]))); (case' dr14 => (intro w' hw' _; go_simp; with_reducible rfl)); (case' dh14 => (try simp only [Act.put, List.setIfInBounds_toArray, List.set_cons_zero, List.set_cons_succ])))
  refine head_nil ?_
  intro w3 hb _
  replace HB := hid (Grow.trans HB.out hb)
  replace P := hid (grow_block P.out hb)
  replace HG := hid (grow_block HG.out hb)
  clear hb
  refine wpList_nil ?_
  clear hq1 hq2 t3 t4
  go_wp2_with fail
  go_loopg [2, 73] (m + 1) (fun z v2 i wr => ∃ (j x : Nat), j ≤ m ∧ z = m + 1 - j ∧ v2 = .int .i64 (x : Int) ∧ i = .int .i64 (j : Int) ∧ Hid (x ≤ N) ∧ Hid (IsSg wr g 8 r seed key (x : Int)) ∧ Hid (wr.heap[g11]? = some (.cells #[.int .i64 8, .int .i64 (r : Int)] 44 (0, 0))) ∧ Hid (Grow w wr))
  case atStart => exact ⟨0, x0, by omega, rfl, rfl, rfl, XN0, HG, P, HB⟩
  case round =>
    clear HG P HB
    obtain ⟨j, x, hj, hz, rfl, rfl, XN, HG, P, HB⟩ := hrel
    by_cases hlt : j < m
    · have j0 : (0 : Int) ≤ (j : Int) := by omega
      have j1 : (j : Int) < (m : Int) := by omega
      have S32 := hid (getD_mem_len H32.out (show j < xs.length by rw [HM.out]; exact hlt))
      obtain ⟨ad, rfl, hc⟩ := (HX.out.grow HB.out).at_ j (by rw [HM.out]; exact hlt)
      have HC := hid hc
      clear hc
      generalize xs.getD j [] = s at *
      go_wp2_with (first | (refine op_loadAt (l := s) rfl rfl rfl HC.out S32.out ?_) | (refine op_alloc rfl rfl ?_))
      intro g16 w16 hgl hgu hb hr
      go_wp2_with (refine op_storeId (l := s) rfl rfl rfl rfl rfl hr (by rfl) S32.out ?_)
      intro w17 hz9 _ hbl
      have hG : Grow wr w17 := hbl _ _ hb hgl
      have NE16 := hid (show g16 ≠ g by have := blk_lt HG.out; omega)
      have H16 := hid hz9
      clear hgl hgu hb hr hz9 hbl HC
      replace HB := hid (Grow.trans HB.out hG)
      replace P := hid (grow_block P.out hG)
      replace HG := hid (grow_block HG.out hG)
      clear hG
      by_cases hj1 : j = 1
      · have ti : ((j : Int) == 1) = true := by simp; omega
        have hj1' := hid hj1
        clear hj1
        by_cases hok : (x : Int) ≤ skip ∧ skip ≤ (N : Int)
        · obtain ⟨y, rfl⟩ : ∃ n : Nat, skip = (n : Int) := ⟨skip.toNat, by omega⟩
          have u1 : decide (x ≤ y) = true := by simp; omega
          have u2 : decide (y ≤ N) = true := by simp; omega
          have YNN := hid (show y ≤ N by omega)
          have HSK := hid (fun w (hg : IsSg w g 8 r seed key (x : Int)) => sgSkip_yes g 8 r seed key x N (y : Int) HNK.out LK.out hok w hg)
          clear hok XN
          have XN := YNN
          go_wp2_with fail
          refine (HSK.out _ HG.out).mono ?_
          rintro e wk ⟨rfl, hg2, hgb⟩
          have P' := hid (blk_other hgb P.out NE11.out)
          have H16' := hid (blk_other hgb H16.out NE16.out)
          have HB' := hid (below_upd HB.out hgb HB.out.size GB.out)
          have HG' := hid hg2
          replace P := P'
          replace H16 := H16'
          replace HB := HB'
          replace HG := HG'
          clear P' H16' HB' HG' hg2 hgb
          go_wp2_with fail
          clear ti u1 u2
          obtain ⟨z0, hz0⟩ : ∃ z, z = N - y := ⟨_, rfl⟩
          have hsub : (N : Int) - (y : Int) = (z0 : Int) := by have := XN.out; omega
          have HLE := hid (fun w (hg : IsSg w g 8 r seed key (y : Int)) => sgLeft g 8 r seed key y N HNK.out XN.out (by omega) LK.out w hg)
          rw [← hz0] at HLE
          have x1 : (y : Int) ≤ (N : Int) := by have := XN.out; omega
          clear hz0
          go_wp2_with fail
          refine (sgNext g 8 r seed key y LK.out _ HG.out).mono ?_
          rintro e w4 ⟨rfl, hb⟩
          replace HB := hid (Grow.trans HB.out hb)
          replace P := hid (grow_block P.out hb)
          replace HG := hid (grow_block HG.out hb)
          replace H16 := hid (grow_block H16.out hb)
          clear hb
          go_wp2_with fail
          refine (HLE.out _ HG.out).mono ?_
          rintro e w5 ⟨rfl, hb⟩
          replace HB := hid (Grow.trans HB.out hb)
          replace P := hid (grow_block P.out hb)
          replace HG := hid (grow_block HG.out hb)
          replace H16 := hid (grow_block H16.out hb)
          clear hb
          go_wp2_with (first | (refine opG_loadB rfl rfl rfl P.out Try.underlying44 rfl rfl ?_) | (refine opG_load1 rfl rfl rfl P.out rfl Try.underlying3 rfl ?_) | (refine op_loadId rfl rfl rfl H16.out (S32.out) ?_) |  fail)
          by_cases hsp : y = N
          · have tsp : ((y : Int) == (N : Int)) = true := by simp; omega
            have HGN := hid (show IsSg _ g 8 r seed key (N : Int) from by rw [← hsp]; exact HG.out)
            clear hsp
            refine (sgSign_spent g 8 r seed key N s S32.out HNK.out (by omega) LK.out _ HGN.out).mono ?_
            rintro e w6 ⟨rfl, hb⟩
            replace HB := hid (Grow.trans HB.out hb)
            replace P := hid (grow_block P.out hb)
            replace HG := hid (grow_block HG.out hb)
            replace H16 := hid (grow_block H16.out hb)
            clear hb
            go_wp2_with (refine op_allocstoreSig rfl rfl rfl rfl rfl rfl (fun _ => rfl) (fun _ => rfl) rfl nilSig_one ?_)
            intro g18 w18 hgl hgu hb hr
            replace HB := hid (Grow.trans HB.out hb)
            replace P := hid (grow_block P.out hb)
            replace HG := hid (grow_block HG.out hb)
            replace H16 := hid (grow_block H16.out hb)
            clear hb
            have H18 := hid hr
            clear hgl hgu hr
            go_wp2_with (first | (refine opG_loadB rfl rfl rfl H18.out Try.underlying88 rfl rfl ?_) | (refine opG_build (ps := #[]) rfl rfl (by simp) HB0.out ?_))
            refine (refSame8 0 none none none none none none 0 0 0 0 0 0 0 0 0 0 0 0 [] [] [] _ (idRow_nil _ _) (idRow_nil _ _) (idRow_nil _ _) (idRow_nil _ _) (idRow_nil _ _) (idRow_nil _ _) rfl rfl rfl rfl rfl rfl (fun _ h => by cases h) (fun _ h => by cases h) (fun _ h => by cases h)).mono ?_
            rintro e w7 ⟨rfl, hb⟩
            replace HB := hid (Grow.trans HB.out hb)
            replace P := hid (grow_block P.out hb)
            replace HG := hid (grow_block HG.out hb)
            replace H16 := hid (grow_block H16.out hb)
            clear hb
            go_wp2_with fail
            go_roundg (m + 1 - (j + 1))
            case rel => exact ⟨j + 1, y, by omega, by omega, rfl, by go_num, XN, HG, P, HB⟩
            case measure => omega
          · have tsp : ((y : Int) == (N : Int)) = false := by simp; omega
            have hlt : y < N := by have := XN.out; omega
            obtain ⟨y9, hy9⟩ : ∃ q, q = y + 1 := ⟨_, rfl⟩
            have hx1 : (y : Int) + 1 = (y9 : Int) := by omega
            have YN := hid (show y9 ≤ N by omega)
            have HFT := hid (fits_own r y (rowOf (shownG seed y s) 8).length (rowOf (hiddenG seed y s) 8).length (wayOf seed 8 r y).length HKT.out (by rw [← HN2.out]; exact hlt) (rowOf_length _ _) (rowOf_length _ _) (wayOf_length _ _ _ _))
            have HVO := hid (HVA.out y s hlt)
            have E1 := hid (rowOf_32 _ (shownG_length seed y s) 8)
            have E2 := hid (rowOf_32 _ (hiddenG_length seed y s) 8)
            have E3 := hid (wayOf_32 seed 8 r y)
            have HSG := hid (fun w => refSign8 8 r (by omega) (by have := HR3.out; omega) seed hs y (by rw [← HN2.out]; exact hlt) s S32.out w)
            refine (sgSign g 8 r seed hs key y N s S32.out HKT.out HN2.out hlt LK.out _ HG.out).mono ?_
            intro e wq hr
            obtain ⟨B1, d1, B2, d2, B3, d3, rfl, r1, r2, r3, hg2, hgb⟩ := hr.sl
            rw [← hy9] at hg2
            have R1 := hid r1
            have R2 := hid r2
            have R3 := hid r3
            have P' := hid (blk_other hgb P.out NE11.out)
            have H16' := hid (blk_other hgb H16.out NE16.out)
            have HB' := hid (below_upd HB.out hgb HB.out.size GB.out)
            have HG' := hid hg2
            clear hr r1 r2 r3 hg2 hgb hy9 hlt
            replace P := P'
            replace H16 := H16'
            replace HB := HB'
            replace HG := HG'
            clear P' H16' HB' HG'
            go_wp2_with (refine op_allocstoreSig rfl rfl rfl rfl rfl rfl (fun _ => rfl) (fun _ => rfl) rfl sig_one ?_)
            intro g18 w18 hgl hgu hb hr
            replace HB := hid (Grow.trans HB.out hb)
            replace P := hid (grow_block P.out hb)
            replace HG := hid (grow_block HG.out hb)
            replace H16 := hid (grow_block H16.out hb)
            replace R1 := hid (R1.out.grow hb)
            replace R2 := hid (R2.out.grow hb)
            replace R3 := hid (R3.out.grow hb)
            clear hb
            have H18 := hid hr
            clear hgl hgu hr
            go_wp2_with fail
            (refine' wp_region_head 21 0 [_, _, _, _, _, _, _, _, _, _, _, _, _, _, _, _, _, _, _, _, _] rfl (by kernel_rfl) (by kernel_rfl) ?hreg15; case' hreg15 => simp only [List.take_succ_cons, List.take_zero, List.zip_cons_cons, List.zip_nil_right, List.drop_succ_cons, List.drop_zero, List.drop_nil])
            (refine' head_val ?dw16 ?de16 ?dr16 ?dh16; (case' dw16 => rfl); (case' de16 => (first | exact fun _ _ _ => trivial | (intro t ht w; cases ht; simp [upE]))); (case' dr16 => (intro w' hw' _; go_simp; with_reducible rfl)); (case' dh16 => (try simp only [Act.put, List.setIfInBounds_toArray, List.set_cons_zero, List.set_cons_succ]))); (refine' head_val ?dw17 ?de17 ?dr17 ?dh17; (case' dw17 => rfl); (case' de17 => (first | exact fun _ _ _ => trivial | (intro t ht w; cases ht; simp [upE]))); (case' dr17 => (intro w' hw' _; go_simp; with_reducible rfl)); (case' dh17 => (try simp only [Act.put, List.setIfInBounds_toArray, List.set_cons_zero, List.set_cons_succ]))); (refine' head_val ?dw18 ?de18 ?dr18 ?dh18; (case' dw18 => rfl); (case' de18 => (first | exact fun _ _ _ => trivial | (intro t ht w; cases ht; simp [upE]))); (case' dr18 => (intro w' hw' _; go_simp; with_reducible rfl)); (case' dh18 => (try simp only [Act.put, List.setIfInBounds_toArray, List.set_cons_zero, List.set_cons_succ])))
            (refine' head_loadB rfl ?_ rfl rfl H18.out Try.underlying88 rfl rfl ?_; (first | exact fun _ _ _ => trivial | (intro t ht w; cases ht; simp [upE])); try simp only [Act.put, List.setIfInBounds_toArray, List.set_cons_zero, List.set_cons_succ])
            (refine' head_loadB rfl ?_ rfl rfl P.out Try.underlying44 rfl rfl ?_; (first | exact fun _ _ _ => trivial | (intro t ht w; cases ht; simp [upE])); try simp only [Act.put, List.setIfInBounds_toArray, List.set_cons_zero, List.set_cons_succ])
            (refine' head_val ?dw19 ?de19 ?dr19 ?dh19; (case' dw19 => rfl); (case' de19 => (first | exact fun _ _ _ => trivial | (intro t ht w; cases ht; simp [upE]))); (case' dr19 => (intro w' hw' _; go_simp; with_reducible rfl)); (case' dh19 => (try simp only [Act.put, List.setIfInBounds_toArray, List.set_cons_zero, List.set_cons_succ]))); (refine' head_val ?dw20 ?de20 ?dr20 ?dh20; (case' dw20 => rfl); (case' de20 => (first | exact fun _ _ _ => trivial | (intro t ht w; cases ht; simp [upE]))); (case' dr20 => (intro w' hw' _; go_simp; with_reducible rfl)); (case' dh20 => (try simp only [Act.put, List.setIfInBounds_toArray, List.set_cons_zero, List.set_cons_succ])))
            (refine' head_loadId (x := _) rfl ?_ rfl rfl H16.out (S32.out) ?_; (first | exact fun _ _ _ => trivial | (intro t ht w; cases ht; simp [upE])); try simp only [Act.put, List.setIfInBounds_toArray, List.set_cons_zero, List.set_cons_succ])
            (refine' head_sig (hV := rfl) (leaf := y) (xs := rowOf (shownG seed y s) 8) (ys := rowOf (hiddenG seed y s) 8) (zs := wayOf seed 8 r y) ?cw21 ?ce21 ?cr21 ?cc21 ?ch21; (case' cw21 => rfl); (case' ce21 => (first | exact fun _ _ _ => trivial | (intro t ht w; cases ht; simp [upE]))); (case' cr21 => (intro w'; go_simp; first | exact ⟨rfl, rfl⟩ | with_reducible rfl)); (case' cc21 => (intro w' hw' hE; exact HSG.out w')); (case' ch21 => (intro A1 c1 A2 c2 A3 c3; try simp only [Act.put, List.setIfInBounds_toArray, List.set_cons_zero, List.set_cons_succ])))
            (refine' head_call ?cw22 ?ce22 ?cr22 ?cc22 ?ch22; (case' cw22 => rfl); (case' ce22 => (first | exact fun _ _ _ => trivial | (intro t ht w; cases ht; simp [upE]))); (case' cr22 => (intro w'; go_simp; first | exact ⟨rfl, rfl⟩ | with_reducible rfl)); (case' cc22 => (intro w' hw' hE; exact refSame8 y B1 B2 B3 A1 A2 A3 _ _ _ _ _ _ d1 d2 d3 c1 c2 c3 _ _ _ w' (R1.out.grow hw') (R2.out.grow hw') (R3.out.grow hw') (sig_at (hE 132 (by decide))).1 (sig_at (hE 132 (by decide))).2.1 (sig_at (hE 132 (by decide))).2.2 rfl rfl rfl rfl rfl rfl E1.out E2.out E3.out)); (case' ch22 => (try simp only [Act.put, List.setIfInBounds_toArray, List.set_cons_zero, List.set_cons_succ])))
            (refine' head_val ?dw23 ?de23 ?dr23 ?dh23; (case' dw23 => rfl); (case' de23 => (first | exact fun _ _ _ => trivial | (intro t ht w; cases ht; simp [upE]))); (case' dr23 => (intro w' hw' _; go_simp; with_reducible rfl)); (case' dh23 => (try simp only [Act.put, List.setIfInBounds_toArray, List.set_cons_zero, List.set_cons_succ]))); (refine' head_val ?dw24 ?de24 ?dr24 ?dh24; (case' dw24 => rfl); (case' de24 => (first | exact fun _ _ _ => trivial | (intro t ht w; cases ht; simp [upE]))); (case' dr24 => (intro w' hw' _; go_simp; with_reducible rfl)); (case' dh24 => (try simp only [Act.put, List.setIfInBounds_toArray, List.set_cons_zero, List.set_cons_succ]))); (refine' head_val ?dw25 ?de25 ?dr25 ?dh25; (case' dw25 => rfl); (case' de25 => (first | exact fun _ _ _ => trivial | (intro t ht w; cases ht; simp [upE]))); (case' dr25 => (intro w' hw' _; go_simp; with_reducible rfl)); (case' dh25 => (try simp only [Act.put, List.setIfInBounds_toArray, List.set_cons_zero, List.set_cons_succ])))
            (refine' head_loadB rfl ?_ rfl rfl P.out Try.underlying44 rfl rfl ?_; (first | exact fun _ _ _ => trivial | (intro t ht w; cases ht; simp [upE])); try simp only [Act.put, List.setIfInBounds_toArray, List.set_cons_zero, List.set_cons_succ])
            (refine' head_val ?dw26 ?de26 ?dr26 ?dh26; (case' dw26 => rfl); (case' de26 => (first | exact fun _ _ _ => trivial | (intro t ht w; cases ht; simp [upE]))); (case' dr26 => (intro w' hw' _; go_simp; with_reducible rfl)); (case' dh26 => (try simp only [Act.put, List.setIfInBounds_toArray, List.set_cons_zero, List.set_cons_succ])))
            (refine' head_call ?cw27 ?ce27 ?cr27 ?cc27 ?ch27; (case' cw27 => rfl); (case' ce27 => (first | exact fun _ _ _ => trivial | (intro t ht w; cases ht; simp [upE]))); (case' cr27 => (intro w'; go_simp; first | exact ⟨rfl, rfl⟩ | with_reducible rfl)); (case' cc27 => (intro w' hw' _; exact sgKey g 8 r seed key y9 LK.out w' (grow_block HG.out hw'))); (case' ch27 => (try simp only [Act.put, List.setIfInBounds_toArray, List.set_cons_zero, List.set_cons_succ])))
            (refine' head_loadId (x := _) rfl ?_ rfl rfl H16.out (S32.out) ?_; (first | exact fun _ _ _ => trivial | (intro t ht w; cases ht; simp [upE])); try simp only [Act.put, List.setIfInBounds_toArray, List.set_cons_zero, List.set_cons_succ])
            (refine' head_loadB rfl ?_ rfl rfl H18.out Try.underlying88 rfl rfl ?_; (first | exact fun _ _ _ => trivial | (intro t ht w; cases ht; simp [upE])); try simp only [Act.put, List.setIfInBounds_toArray, List.set_cons_zero, List.set_cons_succ])
            (refine' head_call ?cw28 ?ce28 ?cr28 ?cc28 ?ch28; (case' cw28 => rfl); (case' ce28 => (first | exact fun _ _ _ => trivial | (intro t ht w; cases ht; simp [upE]))); (case' cr28 => (intro w'; go_simp; first | exact ⟨rfl, rfl⟩ | with_reducible rfl)); (case' cc28 => (intro w' hw' _; exact HVO.out ▸ sgVerify 8 r y key s LK.out S32.out w' B1 B2 B3 _ _ _ d1 d2 d3 _ _ _ (R1.out.grow hw') (R2.out.grow hw') (R3.out.grow hw') rfl rfl rfl E1.out E2.out E3.out HFT.out)); (case' ch28 => (try simp only [Act.put, List.setIfInBounds_toArray, List.set_cons_zero, List.set_cons_succ])))
            (refine' head_val ?dw29 ?de29 ?dr29 ?dh29; (case' dw29 => rfl); (case' de29 => (first | exact fun _ _ _ => trivial | (intro t ht w; cases ht; simp [upE]))); (case' dr29 => (intro w' hw' _; go_simp; with_reducible rfl)); (case' dh29 => (try simp only [Act.put, List.setIfInBounds_toArray, List.set_cons_zero, List.set_cons_succ]))); (refine' head_val ?dw30 ?de30 ?dr30 ?dh30; (case' dw30 => rfl); (case' de30 => (first | exact fun _ _ _ => trivial | (intro t ht w; cases ht; simp [upE]))); (case' dr30 => (intro w' hw' _; go_simp; with_reducible rfl)); (case' dh30 => (try simp only [Act.put, List.setIfInBounds_toArray, List.set_cons_zero, List.set_cons_succ])))
            refine head_nil ?_
            intro w8 hb _
            replace HB := hid (Grow.trans HB.out hb)
            replace P := hid (grow_block P.out hb)
            replace HG := hid (grow_block HG.out hb)
            replace H16 := hid (grow_block H16.out hb)
            replace R1 := hid (R1.out.grow hb)
            replace R2 := hid (R2.out.grow hb)
            replace R3 := hid (R3.out.grow hb)
            clear hb
            refine wpList_nil ?_
            go_wp2_with fail
            go_roundg (m + 1 - (j + 1))
            case rel => exact ⟨j + 1, y9, by omega, by omega, rfl, by go_num, YN, HG, P, HB⟩
            case measure => omega
        · by_cases hlo : (x : Int) ≤ skip
          · have u1 : decide ((x : Int) ≤ skip) = true := by simpa using hlo
            have u2 : decide (skip ≤ (N : Int)) = false := by simp; omega
            have HSK := hid (fun w (hg : IsSg w g 8 r seed key (x : Int)) => sgSkip_no g 8 r seed key x N skip HNK.out LK.out (by omega) w hg)
            clear hok hlo
            go_wp2_with fail
            refine (HSK.out _ HG.out).mono ?_
            rintro e w9 ⟨rfl, hb⟩
            replace HB := hid (Grow.trans HB.out hb)
            replace P := hid (grow_block P.out hb)
            replace HG := hid (grow_block HG.out hb)
            replace H16 := hid (grow_block H16.out hb)
            clear hb
            go_wp2_with fail
            clear ti u1 u2
            obtain ⟨z0, hz0⟩ : ∃ z, z = N - x := ⟨_, rfl⟩
            have hsub : (N : Int) - (x : Int) = (z0 : Int) := by have := XN.out; omega
            have HLE := hid (fun w (hg : IsSg w g 8 r seed key (x : Int)) => sgLeft g 8 r seed key x N HNK.out XN.out (by omega) LK.out w hg)
            rw [← hz0] at HLE
            have x1 : (x : Int) ≤ (N : Int) := by have := XN.out; omega
            clear hz0
            go_wp2_with fail
            refine (sgNext g 8 r seed key x LK.out _ HG.out).mono ?_
            rintro e w10 ⟨rfl, hb⟩
            replace HB := hid (Grow.trans HB.out hb)
            replace P := hid (grow_block P.out hb)
            replace HG := hid (grow_block HG.out hb)
            replace H16 := hid (grow_block H16.out hb)
            clear hb
            go_wp2_with fail
            refine (HLE.out _ HG.out).mono ?_
            rintro e w11 ⟨rfl, hb⟩
            replace HB := hid (Grow.trans HB.out hb)
            replace P := hid (grow_block P.out hb)
            replace HG := hid (grow_block HG.out hb)
            replace H16 := hid (grow_block H16.out hb)
            clear hb
            go_wp2_with (first | (refine opG_loadB rfl rfl rfl P.out Try.underlying44 rfl rfl ?_) | (refine opG_load1 rfl rfl rfl P.out rfl Try.underlying3 rfl ?_) | (refine op_loadId rfl rfl rfl H16.out (S32.out) ?_) |  fail)
            by_cases hsp : x = N
            · have tsp : ((x : Int) == (N : Int)) = true := by simp; omega
              have HGN := hid (show IsSg _ g 8 r seed key (N : Int) from by rw [← hsp]; exact HG.out)
              clear hsp
              refine (sgSign_spent g 8 r seed key N s S32.out HNK.out (by omega) LK.out _ HGN.out).mono ?_
              rintro e w12 ⟨rfl, hb⟩
              replace HB := hid (Grow.trans HB.out hb)
              replace P := hid (grow_block P.out hb)
              replace HG := hid (grow_block HG.out hb)
              replace H16 := hid (grow_block H16.out hb)
              clear hb
              go_wp2_with (refine op_allocstoreSig rfl rfl rfl rfl rfl rfl (fun _ => rfl) (fun _ => rfl) rfl nilSig_one ?_)
              intro g18 w18 hgl hgu hb hr
              replace HB := hid (Grow.trans HB.out hb)
              replace P := hid (grow_block P.out hb)
              replace HG := hid (grow_block HG.out hb)
              replace H16 := hid (grow_block H16.out hb)
              clear hb
              have H18 := hid hr
              clear hgl hgu hr
              go_wp2_with (first | (refine opG_loadB rfl rfl rfl H18.out Try.underlying88 rfl rfl ?_) | (refine opG_build (ps := #[]) rfl rfl (by simp) HB0.out ?_))
              refine (refSame8 0 none none none none none none 0 0 0 0 0 0 0 0 0 0 0 0 [] [] [] _ (idRow_nil _ _) (idRow_nil _ _) (idRow_nil _ _) (idRow_nil _ _) (idRow_nil _ _) (idRow_nil _ _) rfl rfl rfl rfl rfl rfl (fun _ h => by cases h) (fun _ h => by cases h) (fun _ h => by cases h)).mono ?_
              rintro e w13 ⟨rfl, hb⟩
              replace HB := hid (Grow.trans HB.out hb)
              replace P := hid (grow_block P.out hb)
              replace HG := hid (grow_block HG.out hb)
              replace H16 := hid (grow_block H16.out hb)
              clear hb
              go_wp2_with fail
              go_roundg (m + 1 - (j + 1))
              case rel => exact ⟨j + 1, x, by omega, by omega, rfl, by go_num, XN, HG, P, HB⟩
              case measure => omega
            · have tsp : ((x : Int) == (N : Int)) = false := by simp; omega
              have hlt : x < N := by have := XN.out; omega
              obtain ⟨y9, hy9⟩ : ∃ q, q = x + 1 := ⟨_, rfl⟩
              have hx1 : (x : Int) + 1 = (y9 : Int) := by omega
              have YN := hid (show y9 ≤ N by omega)
              have HFT := hid (fits_own r x (rowOf (shownG seed x s) 8).length (rowOf (hiddenG seed x s) 8).length (wayOf seed 8 r x).length HKT.out (by rw [← HN2.out]; exact hlt) (rowOf_length _ _) (rowOf_length _ _) (wayOf_length _ _ _ _))
              have HVO := hid (HVA.out x s hlt)
              have E1 := hid (rowOf_32 _ (shownG_length seed x s) 8)
              have E2 := hid (rowOf_32 _ (hiddenG_length seed x s) 8)
              have E3 := hid (wayOf_32 seed 8 r x)
              have HSG := hid (fun w => refSign8 8 r (by omega) (by have := HR3.out; omega) seed hs x (by rw [← HN2.out]; exact hlt) s S32.out w)
              refine (sgSign g 8 r seed hs key x N s S32.out HKT.out HN2.out hlt LK.out _ HG.out).mono ?_
              intro e wq hr
              obtain ⟨B1, d1, B2, d2, B3, d3, rfl, r1, r2, r3, hg2, hgb⟩ := hr.sl
              rw [← hy9] at hg2
              have R1 := hid r1
              have R2 := hid r2
              have R3 := hid r3
              have P' := hid (blk_other hgb P.out NE11.out)
              have H16' := hid (blk_other hgb H16.out NE16.out)
              have HB' := hid (below_upd HB.out hgb HB.out.size GB.out)
              have HG' := hid hg2
              clear hr r1 r2 r3 hg2 hgb hy9 hlt
              replace P := P'
              replace H16 := H16'
              replace HB := HB'
              replace HG := HG'
              clear P' H16' HB' HG'
              go_wp2_with (refine op_allocstoreSig rfl rfl rfl rfl rfl rfl (fun _ => rfl) (fun _ => rfl) rfl sig_one ?_)
              intro g18 w18 hgl hgu hb hr
              replace HB := hid (Grow.trans HB.out hb)
              replace P := hid (grow_block P.out hb)
              replace HG := hid (grow_block HG.out hb)
              replace H16 := hid (grow_block H16.out hb)
              replace R1 := hid (R1.out.grow hb)
              replace R2 := hid (R2.out.grow hb)
              replace R3 := hid (R3.out.grow hb)
              clear hb
              have H18 := hid hr
              clear hgl hgu hr
              go_wp2_with fail
              (refine' wp_region_head 21 0 [_, _, _, _, _, _, _, _, _, _, _, _, _, _, _, _, _, _, _, _, _] rfl (by kernel_rfl) (by kernel_rfl) ?hreg31; case' hreg31 => simp only [List.take_succ_cons, List.take_zero, List.zip_cons_cons, List.zip_nil_right, List.drop_succ_cons, List.drop_zero, List.drop_nil])
              (refine' head_val ?dw32 ?de32 ?dr32 ?dh32; (case' dw32 => rfl); (case' de32 => (first | exact fun _ _ _ => trivial | (intro t ht w; cases ht; simp [upE]))); (case' dr32 => (intro w' hw' _; go_simp; with_reducible rfl)); (case' dh32 => (try simp only [Act.put, List.setIfInBounds_toArray, List.set_cons_zero, List.set_cons_succ]))); (refine' head_val ?dw33 ?de33 ?dr33 ?dh33; (case' dw33 => rfl); (case' de33 => (first | exact fun _ _ _ => trivial | (intro t ht w; cases ht; simp [upE]))); (case' dr33 => (intro w' hw' _; go_simp; with_reducible rfl)); (case' dh33 => (try simp only [Act.put, List.setIfInBounds_toArray, List.set_cons_zero, List.set_cons_succ]))); (refine' head_val ?dw34 ?de34 ?dr34 ?dh34; (case' dw34 => rfl); (case' de34 => (first | exact fun _ _ _ => trivial | (intro t ht w; cases ht; simp [upE]))); (case' dr34 => (intro w' hw' _; go_simp; with_reducible rfl)); (case' dh34 => (try simp only [Act.put, List.setIfInBounds_toArray, List.set_cons_zero, List.set_cons_succ])))
              (refine' head_loadB rfl ?_ rfl rfl H18.out Try.underlying88 rfl rfl ?_; (first | exact fun _ _ _ => trivial | (intro t ht w; cases ht; simp [upE])); try simp only [Act.put, List.setIfInBounds_toArray, List.set_cons_zero, List.set_cons_succ])
              (refine' head_loadB rfl ?_ rfl rfl P.out Try.underlying44 rfl rfl ?_; (first | exact fun _ _ _ => trivial | (intro t ht w; cases ht; simp [upE])); try simp only [Act.put, List.setIfInBounds_toArray, List.set_cons_zero, List.set_cons_succ])
              (refine' head_val ?dw35 ?de35 ?dr35 ?dh35; (case' dw35 => rfl); (case' de35 => (first | exact fun _ _ _ => trivial | (intro t ht w; cases ht; simp [upE]))); (case' dr35 => (intro w' hw' _; go_simp; with_reducible rfl)); (case' dh35 => (try simp only [Act.put, List.setIfInBounds_toArray, List.set_cons_zero, List.set_cons_succ]))); (refine' head_val ?dw36 ?de36 ?dr36 ?dh36; (case' dw36 => rfl); (case' de36 => (first | exact fun _ _ _ => trivial | (intro t ht w; cases ht; simp [upE]))); (case' dr36 => (intro w' hw' _; go_simp; with_reducible rfl)); (case' dh36 => (try simp only [Act.put, List.setIfInBounds_toArray, List.set_cons_zero, List.set_cons_succ])))
              (refine' head_loadId (x := _) rfl ?_ rfl rfl H16.out (S32.out) ?_; (first | exact fun _ _ _ => trivial | (intro t ht w; cases ht; simp [upE])); try simp only [Act.put, List.setIfInBounds_toArray, List.set_cons_zero, List.set_cons_succ])
              (refine' head_sig (hV := rfl) (leaf := x) (xs := rowOf (shownG seed x s) 8) (ys := rowOf (hiddenG seed x s) 8) (zs := wayOf seed 8 r x) ?cw37 ?ce37 ?cr37 ?cc37 ?ch37; (case' cw37 => rfl); (case' ce37 => (first | exact fun _ _ _ => trivial | (intro t ht w; cases ht; simp [upE]))); (case' cr37 => (intro w'; go_simp; first | exact ⟨rfl, rfl⟩ | with_reducible rfl)); (case' cc37 => (intro w' hw' hE; exact HSG.out w')); (case' ch37 => (intro A1 c1 A2 c2 A3 c3; try simp only [Act.put, List.setIfInBounds_toArray, List.set_cons_zero, List.set_cons_succ])))
              (refine' head_call ?cw38 ?ce38 ?cr38 ?cc38 ?ch38; (case' cw38 => rfl); (case' ce38 => (first | exact fun _ _ _ => trivial | (intro t ht w; cases ht; simp [upE]))); (case' cr38 => (intro w'; go_simp; first | exact ⟨rfl, rfl⟩ | with_reducible rfl)); (case' cc38 => (intro w' hw' hE; exact refSame8 x B1 B2 B3 A1 A2 A3 _ _ _ _ _ _ d1 d2 d3 c1 c2 c3 _ _ _ w' (R1.out.grow hw') (R2.out.grow hw') (R3.out.grow hw') (sig_at (hE 132 (by decide))).1 (sig_at (hE 132 (by decide))).2.1 (sig_at (hE 132 (by decide))).2.2 rfl rfl rfl rfl rfl rfl E1.out E2.out E3.out)); (case' ch38 => (try simp only [Act.put, List.setIfInBounds_toArray, List.set_cons_zero, List.set_cons_succ])))
              (refine' head_val ?dw39 ?de39 ?dr39 ?dh39; (case' dw39 => rfl); (case' de39 => (first | exact fun _ _ _ => trivial | (intro t ht w; cases ht; simp [upE]))); (case' dr39 => (intro w' hw' _; go_simp; with_reducible rfl)); (case' dh39 => (try simp only [Act.put, List.setIfInBounds_toArray, List.set_cons_zero, List.set_cons_succ]))); (refine' head_val ?dw40 ?de40 ?dr40 ?dh40; (case' dw40 => rfl); (case' de40 => (first | exact fun _ _ _ => trivial | (intro t ht w; cases ht; simp [upE]))); (case' dr40 => (intro w' hw' _; go_simp; with_reducible rfl)); (case' dh40 => (try simp only [Act.put, List.setIfInBounds_toArray, List.set_cons_zero, List.set_cons_succ]))); (refine' head_val ?dw41 ?de41 ?dr41 ?dh41; (case' dw41 => rfl); (case' de41 => (first | exact fun _ _ _ => trivial | (intro t ht w; cases ht; simp [upE]))); (case' dr41 => (intro w' hw' _; go_simp; with_reducible rfl)); (case' dh41 => (try simp only [Act.put, List.setIfInBounds_toArray, List.set_cons_zero, List.set_cons_succ])))
              (refine' head_loadB rfl ?_ rfl rfl P.out Try.underlying44 rfl rfl ?_; (first | exact fun _ _ _ => trivial | (intro t ht w; cases ht; simp [upE])); try simp only [Act.put, List.setIfInBounds_toArray, List.set_cons_zero, List.set_cons_succ])
              (refine' head_val ?dw42 ?de42 ?dr42 ?dh42; (case' dw42 => rfl); (case' de42 => (first | exact fun _ _ _ => trivial | (intro t ht w; cases ht; simp [upE]))); (case' dr42 => (intro w' hw' _; go_simp; with_reducible rfl)); (case' dh42 => (try simp only [Act.put, List.setIfInBounds_toArray, List.set_cons_zero, List.set_cons_succ])))
              (refine' head_call ?cw43 ?ce43 ?cr43 ?cc43 ?ch43; (case' cw43 => rfl); (case' ce43 => (first | exact fun _ _ _ => trivial | (intro t ht w; cases ht; simp [upE]))); (case' cr43 => (intro w'; go_simp; first | exact ⟨rfl, rfl⟩ | with_reducible rfl)); (case' cc43 => (intro w' hw' _; exact sgKey g 8 r seed key y9 LK.out w' (grow_block HG.out hw'))); (case' ch43 => (try simp only [Act.put, List.setIfInBounds_toArray, List.set_cons_zero, List.set_cons_succ])))
              (refine' head_loadId (x := _) rfl ?_ rfl rfl H16.out (S32.out) ?_; (first | exact fun _ _ _ => trivial | (intro t ht w; cases ht; simp [upE])); try simp only [Act.put, List.setIfInBounds_toArray, List.set_cons_zero, List.set_cons_succ])
              (refine' head_loadB rfl ?_ rfl rfl H18.out Try.underlying88 rfl rfl ?_; (first | exact fun _ _ _ => trivial | (intro t ht w; cases ht; simp [upE])); try simp only [Act.put, List.setIfInBounds_toArray, List.set_cons_zero, List.set_cons_succ])
              (refine' head_call ?cw44 ?ce44 ?cr44 ?cc44 ?ch44; (case' cw44 => rfl); (case' ce44 => (first | exact fun _ _ _ => trivial | (intro t ht w; cases ht; simp [upE]))); (case' cr44 => (intro w'; go_simp; first | exact ⟨rfl, rfl⟩ | with_reducible rfl)); (case' cc44 => (intro w' hw' _; exact HVO.out ▸ sgVerify 8 r x key s LK.out S32.out w' B1 B2 B3 _ _ _ d1 d2 d3 _ _ _ (R1.out.grow hw') (R2.out.grow hw') (R3.out.grow hw') rfl rfl rfl E1.out E2.out E3.out HFT.out)); (case' ch44 => (try simp only [Act.put, List.setIfInBounds_toArray, List.set_cons_zero, List.set_cons_succ])))
              (refine' head_val ?dw45 ?de45 ?dr45 ?dh45; (case' dw45 => rfl); (case' de45 => (first | exact fun _ _ _ => trivial | (intro t ht w; cases ht; simp [upE]))); (case' dr45 => (intro w' hw' _; go_simp; with_reducible rfl)); (case' dh45 => (try simp only [Act.put, List.setIfInBounds_toArray, List.set_cons_zero, List.set_cons_succ]))); (refine' head_val ?dw46 ?de46 ?dr46 ?dh46; (case' dw46 => rfl); (case' de46 => (first | exact fun _ _ _ => trivial | (intro t ht w; cases ht; simp [upE]))); (case' dr46 => (intro w' hw' _; go_simp; with_reducible rfl)); (case' dh46 => (try simp only [Act.put, List.setIfInBounds_toArray, List.set_cons_zero, List.set_cons_succ])))
              refine head_nil ?_
              intro w14 hb _
              replace HB := hid (Grow.trans HB.out hb)
              replace P := hid (grow_block P.out hb)
              replace HG := hid (grow_block HG.out hb)
              replace H16 := hid (grow_block H16.out hb)
              replace R1 := hid (R1.out.grow hb)
              replace R2 := hid (R2.out.grow hb)
              replace R3 := hid (R3.out.grow hb)
              clear hb
              refine wpList_nil ?_
              go_wp2_with fail
              go_roundg (m + 1 - (j + 1))
              case rel => exact ⟨j + 1, y9, by omega, by omega, rfl, by go_num, YN, HG, P, HB⟩
              case measure => omega
          · have u1 : decide ((x : Int) ≤ skip) = false := by simpa using hlo
            have HSK := hid (fun w (hg : IsSg w g 8 r seed key (x : Int)) => sgSkip_no g 8 r seed key x N skip HNK.out LK.out (by omega) w hg)
            clear hok hlo
            go_wp2_with fail
            refine (HSK.out _ HG.out).mono ?_
            rintro e w15 ⟨rfl, hb⟩
            replace HB := hid (Grow.trans HB.out hb)
            replace P := hid (grow_block P.out hb)
            replace HG := hid (grow_block HG.out hb)
            replace H16 := hid (grow_block H16.out hb)
            clear hb
            go_wp2_with fail
            clear ti u1
            obtain ⟨z0, hz0⟩ : ∃ z, z = N - x := ⟨_, rfl⟩
            have hsub : (N : Int) - (x : Int) = (z0 : Int) := by have := XN.out; omega
            have HLE := hid (fun w (hg : IsSg w g 8 r seed key (x : Int)) => sgLeft g 8 r seed key x N HNK.out XN.out (by omega) LK.out w hg)
            rw [← hz0] at HLE
            have x1 : (x : Int) ≤ (N : Int) := by have := XN.out; omega
            clear hz0
            go_wp2_with fail
            refine (sgNext g 8 r seed key x LK.out _ HG.out).mono ?_
            rintro e w16 ⟨rfl, hb⟩
            replace HB := hid (Grow.trans HB.out hb)
            replace P := hid (grow_block P.out hb)
            replace HG := hid (grow_block HG.out hb)
            replace H16 := hid (grow_block H16.out hb)
            clear hb
            go_wp2_with fail
            refine (HLE.out _ HG.out).mono ?_
            rintro e w17 ⟨rfl, hb⟩
            replace HB := hid (Grow.trans HB.out hb)
            replace P := hid (grow_block P.out hb)
            replace HG := hid (grow_block HG.out hb)
            replace H16 := hid (grow_block H16.out hb)
            clear hb
            go_wp2_with (first | (refine opG_loadB rfl rfl rfl P.out Try.underlying44 rfl rfl ?_) | (refine opG_load1 rfl rfl rfl P.out rfl Try.underlying3 rfl ?_) | (refine op_loadId rfl rfl rfl H16.out (S32.out) ?_) |  fail)
            by_cases hsp : x = N
            · have tsp : ((x : Int) == (N : Int)) = true := by simp; omega
              have HGN := hid (show IsSg _ g 8 r seed key (N : Int) from by rw [← hsp]; exact HG.out)
              clear hsp
              refine (sgSign_spent g 8 r seed key N s S32.out HNK.out (by omega) LK.out _ HGN.out).mono ?_
              rintro e w18 ⟨rfl, hb⟩
              replace HB := hid (Grow.trans HB.out hb)
              replace P := hid (grow_block P.out hb)
              replace HG := hid (grow_block HG.out hb)
              replace H16 := hid (grow_block H16.out hb)
              clear hb
              go_wp2_with (refine op_allocstoreSig rfl rfl rfl rfl rfl rfl (fun _ => rfl) (fun _ => rfl) rfl nilSig_one ?_)
              intro g18 w18 hgl hgu hb hr
              replace HB := hid (Grow.trans HB.out hb)
              replace P := hid (grow_block P.out hb)
              replace HG := hid (grow_block HG.out hb)
              replace H16 := hid (grow_block H16.out hb)
              clear hb
              have H18 := hid hr
              clear hgl hgu hr
              go_wp2_with (first | (refine opG_loadB rfl rfl rfl H18.out Try.underlying88 rfl rfl ?_) | (refine opG_build (ps := #[]) rfl rfl (by simp) HB0.out ?_))
              refine (refSame8 0 none none none none none none 0 0 0 0 0 0 0 0 0 0 0 0 [] [] [] _ (idRow_nil _ _) (idRow_nil _ _) (idRow_nil _ _) (idRow_nil _ _) (idRow_nil _ _) (idRow_nil _ _) rfl rfl rfl rfl rfl rfl (fun _ h => by cases h) (fun _ h => by cases h) (fun _ h => by cases h)).mono ?_
              rintro e w19 ⟨rfl, hb⟩
              replace HB := hid (Grow.trans HB.out hb)
              replace P := hid (grow_block P.out hb)
              replace HG := hid (grow_block HG.out hb)
              replace H16 := hid (grow_block H16.out hb)
              clear hb
              go_wp2_with fail
              go_roundg (m + 1 - (j + 1))
              case rel => exact ⟨j + 1, x, by omega, by omega, rfl, by go_num, XN, HG, P, HB⟩
              case measure => omega
            · have tsp : ((x : Int) == (N : Int)) = false := by simp; omega
              have hlt : x < N := by have := XN.out; omega
              obtain ⟨y9, hy9⟩ : ∃ q, q = x + 1 := ⟨_, rfl⟩
              have hx1 : (x : Int) + 1 = (y9 : Int) := by omega
              have YN := hid (show y9 ≤ N by omega)
              have HFT := hid (fits_own r x (rowOf (shownG seed x s) 8).length (rowOf (hiddenG seed x s) 8).length (wayOf seed 8 r x).length HKT.out (by rw [← HN2.out]; exact hlt) (rowOf_length _ _) (rowOf_length _ _) (wayOf_length _ _ _ _))
              have HVO := hid (HVA.out x s hlt)
              have E1 := hid (rowOf_32 _ (shownG_length seed x s) 8)
              have E2 := hid (rowOf_32 _ (hiddenG_length seed x s) 8)
              have E3 := hid (wayOf_32 seed 8 r x)
              have HSG := hid (fun w => refSign8 8 r (by omega) (by have := HR3.out; omega) seed hs x (by rw [← HN2.out]; exact hlt) s S32.out w)
              refine (sgSign g 8 r seed hs key x N s S32.out HKT.out HN2.out hlt LK.out _ HG.out).mono ?_
              intro e wq hr
              obtain ⟨B1, d1, B2, d2, B3, d3, rfl, r1, r2, r3, hg2, hgb⟩ := hr.sl
              rw [← hy9] at hg2
              have R1 := hid r1
              have R2 := hid r2
              have R3 := hid r3
              have P' := hid (blk_other hgb P.out NE11.out)
              have H16' := hid (blk_other hgb H16.out NE16.out)
              have HB' := hid (below_upd HB.out hgb HB.out.size GB.out)
              have HG' := hid hg2
              clear hr r1 r2 r3 hg2 hgb hy9 hlt
              replace P := P'
              replace H16 := H16'
              replace HB := HB'
              replace HG := HG'
              clear P' H16' HB' HG'
              go_wp2_with (refine op_allocstoreSig rfl rfl rfl rfl rfl rfl (fun _ => rfl) (fun _ => rfl) rfl sig_one ?_)
              intro g18 w18 hgl hgu hb hr
              replace HB := hid (Grow.trans HB.out hb)
              replace P := hid (grow_block P.out hb)
              replace HG := hid (grow_block HG.out hb)
              replace H16 := hid (grow_block H16.out hb)
              replace R1 := hid (R1.out.grow hb)
              replace R2 := hid (R2.out.grow hb)
              replace R3 := hid (R3.out.grow hb)
              clear hb
              have H18 := hid hr
              clear hgl hgu hr
              go_wp2_with fail
              (refine' wp_region_head 21 0 [_, _, _, _, _, _, _, _, _, _, _, _, _, _, _, _, _, _, _, _, _] rfl (by kernel_rfl) (by kernel_rfl) ?hreg47; case' hreg47 => simp only [List.take_succ_cons, List.take_zero, List.zip_cons_cons, List.zip_nil_right, List.drop_succ_cons, List.drop_zero, List.drop_nil])
              (refine' head_val ?dw48 ?de48 ?dr48 ?dh48; (case' dw48 => rfl); (case' de48 => (first | exact fun _ _ _ => trivial | (intro t ht w; cases ht; simp [upE]))); (case' dr48 => (intro w' hw' _; go_simp; with_reducible rfl)); (case' dh48 => (try simp only [Act.put, List.setIfInBounds_toArray, List.set_cons_zero, List.set_cons_succ]))); (refine' head_val ?dw49 ?de49 ?dr49 ?dh49; (case' dw49 => rfl); (case' de49 => (first | exact fun _ _ _ => trivial | (intro t ht w; cases ht; simp [upE]))); (case' dr49 => (intro w' hw' _; go_simp; with_reducible rfl)); (case' dh49 => (try simp only [Act.put, List.setIfInBounds_toArray, List.set_cons_zero, List.set_cons_succ]))); (refine' head_val ?dw50 ?de50 ?dr50 ?dh50; (case' dw50 => rfl); (case' de50 => (first | exact fun _ _ _ => trivial | (intro t ht w; cases ht; simp [upE]))); (case' dr50 => (intro w' hw' _; go_simp; with_reducible rfl)); (case' dh50 => (try simp only [Act.put, List.setIfInBounds_toArray, List.set_cons_zero, List.set_cons_succ])))
              (refine' head_loadB rfl ?_ rfl rfl H18.out Try.underlying88 rfl rfl ?_; (first | exact fun _ _ _ => trivial | (intro t ht w; cases ht; simp [upE])); try simp only [Act.put, List.setIfInBounds_toArray, List.set_cons_zero, List.set_cons_succ])
              (refine' head_loadB rfl ?_ rfl rfl P.out Try.underlying44 rfl rfl ?_; (first | exact fun _ _ _ => trivial | (intro t ht w; cases ht; simp [upE])); try simp only [Act.put, List.setIfInBounds_toArray, List.set_cons_zero, List.set_cons_succ])
              (refine' head_val ?dw51 ?de51 ?dr51 ?dh51; (case' dw51 => rfl); (case' de51 => (first | exact fun _ _ _ => trivial | (intro t ht w; cases ht; simp [upE]))); (case' dr51 => (intro w' hw' _; go_simp; with_reducible rfl)); (case' dh51 => (try simp only [Act.put, List.setIfInBounds_toArray, List.set_cons_zero, List.set_cons_succ]))); (refine' head_val ?dw52 ?de52 ?dr52 ?dh52; (case' dw52 => rfl); (case' de52 => (first | exact fun _ _ _ => trivial | (intro t ht w; cases ht; simp [upE]))); (case' dr52 => (intro w' hw' _; go_simp; with_reducible rfl)); (case' dh52 => (try simp only [Act.put, List.setIfInBounds_toArray, List.set_cons_zero, List.set_cons_succ])))
              (refine' head_loadId (x := _) rfl ?_ rfl rfl H16.out (S32.out) ?_; (first | exact fun _ _ _ => trivial | (intro t ht w; cases ht; simp [upE])); try simp only [Act.put, List.setIfInBounds_toArray, List.set_cons_zero, List.set_cons_succ])
              (refine' head_sig (hV := rfl) (leaf := x) (xs := rowOf (shownG seed x s) 8) (ys := rowOf (hiddenG seed x s) 8) (zs := wayOf seed 8 r x) ?cw53 ?ce53 ?cr53 ?cc53 ?ch53; (case' cw53 => rfl); (case' ce53 => (first | exact fun _ _ _ => trivial | (intro t ht w; cases ht; simp [upE]))); (case' cr53 => (intro w'; go_simp; first | exact ⟨rfl, rfl⟩ | with_reducible rfl)); (case' cc53 => (intro w' hw' hE; exact HSG.out w')); (case' ch53 => (intro A1 c1 A2 c2 A3 c3; try simp only [Act.put, List.setIfInBounds_toArray, List.set_cons_zero, List.set_cons_succ])))
              (refine' head_call ?cw54 ?ce54 ?cr54 ?cc54 ?ch54; (case' cw54 => rfl); (case' ce54 => (first | exact fun _ _ _ => trivial | (intro t ht w; cases ht; simp [upE]))); (case' cr54 => (intro w'; go_simp; first | exact ⟨rfl, rfl⟩ | with_reducible rfl)); (case' cc54 => (intro w' hw' hE; exact refSame8 x B1 B2 B3 A1 A2 A3 _ _ _ _ _ _ d1 d2 d3 c1 c2 c3 _ _ _ w' (R1.out.grow hw') (R2.out.grow hw') (R3.out.grow hw') (sig_at (hE 132 (by decide))).1 (sig_at (hE 132 (by decide))).2.1 (sig_at (hE 132 (by decide))).2.2 rfl rfl rfl rfl rfl rfl E1.out E2.out E3.out)); (case' ch54 => (try simp only [Act.put, List.setIfInBounds_toArray, List.set_cons_zero, List.set_cons_succ])))
              (refine' head_val ?dw55 ?de55 ?dr55 ?dh55; (case' dw55 => rfl); (case' de55 => (first | exact fun _ _ _ => trivial | (intro t ht w; cases ht; simp [upE]))); (case' dr55 => (intro w' hw' _; go_simp; with_reducible rfl)); (case' dh55 => (try simp only [Act.put, List.setIfInBounds_toArray, List.set_cons_zero, List.set_cons_succ]))); (refine' head_val ?dw56 ?de56 ?dr56 ?dh56; (case' dw56 => rfl); (case' de56 => (first | exact fun _ _ _ => trivial | (intro t ht w; cases ht; simp [upE]))); (case' dr56 => (intro w' hw' _; go_simp; with_reducible rfl)); (case' dh56 => (try simp only [Act.put, List.setIfInBounds_toArray, List.set_cons_zero, List.set_cons_succ]))); (refine' head_val ?dw57 ?de57 ?dr57 ?dh57; (case' dw57 => rfl); (case' de57 => (first | exact fun _ _ _ => trivial | (intro t ht w; cases ht; simp [upE]))); (case' dr57 => (intro w' hw' _; go_simp; with_reducible rfl)); (case' dh57 => (try simp only [Act.put, List.setIfInBounds_toArray, List.set_cons_zero, List.set_cons_succ])))
              (refine' head_loadB rfl ?_ rfl rfl P.out Try.underlying44 rfl rfl ?_; (first | exact fun _ _ _ => trivial | (intro t ht w; cases ht; simp [upE])); try simp only [Act.put, List.setIfInBounds_toArray, List.set_cons_zero, List.set_cons_succ])
              (refine' head_val ?dw58 ?de58 ?dr58 ?dh58; (case' dw58 => rfl); (case' de58 => (first | exact fun _ _ _ => trivial | (intro t ht w; cases ht; simp [upE]))); (case' dr58 => (intro w' hw' _; go_simp; with_reducible rfl)); (case' dh58 => (try simp only [Act.put, List.setIfInBounds_toArray, List.set_cons_zero, List.set_cons_succ])))
              (refine' head_call ?cw59 ?ce59 ?cr59 ?cc59 ?ch59; (case' cw59 => rfl); (case' ce59 => (first | exact fun _ _ _ => trivial | (intro t ht w; cases ht; simp [upE]))); (case' cr59 => (intro w'; go_simp; first | exact ⟨rfl, rfl⟩ | with_reducible rfl)); (case' cc59 => (intro w' hw' _; exact sgKey g 8 r seed key y9 LK.out w' (grow_block HG.out hw'))); (case' ch59 => (try simp only [Act.put, List.setIfInBounds_toArray, List.set_cons_zero, List.set_cons_succ])))
              (refine' head_loadId (x := _) rfl ?_ rfl rfl H16.out (S32.out) ?_; (first | exact fun _ _ _ => trivial | (intro t ht w; cases ht; simp [upE])); try simp only [Act.put, List.setIfInBounds_toArray, List.set_cons_zero, List.set_cons_succ])
              (refine' head_loadB rfl ?_ rfl rfl H18.out Try.underlying88 rfl rfl ?_; (first | exact fun _ _ _ => trivial | (intro t ht w; cases ht; simp [upE])); try simp only [Act.put, List.setIfInBounds_toArray, List.set_cons_zero, List.set_cons_succ])
              (refine' head_call ?cw60 ?ce60 ?cr60 ?cc60 ?ch60; (case' cw60 => rfl); (case' ce60 => (first | exact fun _ _ _ => trivial | (intro t ht w; cases ht; simp [upE]))); (case' cr60 => (intro w'; go_simp; first | exact ⟨rfl, rfl⟩ | with_reducible rfl)); (case' cc60 => (intro w' hw' _; exact HVO.out ▸ sgVerify 8 r x key s LK.out S32.out w' B1 B2 B3 _ _ _ d1 d2 d3 _ _ _ (R1.out.grow hw') (R2.out.grow hw') (R3.out.grow hw') rfl rfl rfl E1.out E2.out E3.out HFT.out)); (case' ch60 => (try simp only [Act.put, List.setIfInBounds_toArray, List.set_cons_zero, List.set_cons_succ])))
              (refine' head_val ?dw61 ?de61 ?dr61 ?dh61; (case' dw61 => rfl); (case' de61 => (first | exact fun _ _ _ => trivial | (intro t ht w; cases ht; simp [upE]))); (case' dr61 => (intro w' hw' _; go_simp; with_reducible rfl)); (case' dh61 => (try simp only [Act.put, List.setIfInBounds_toArray, List.set_cons_zero, List.set_cons_succ]))); (refine' head_val ?dw62 ?de62 ?dr62 ?dh62; (case' dw62 => rfl); (case' de62 => (first | exact fun _ _ _ => trivial | (intro t ht w; cases ht; simp [upE]))); (case' dr62 => (intro w' hw' _; go_simp; with_reducible rfl)); (case' dh62 => (try simp only [Act.put, List.setIfInBounds_toArray, List.set_cons_zero, List.set_cons_succ])))
              refine head_nil ?_
              intro w20 hb _
              replace HB := hid (Grow.trans HB.out hb)
              replace P := hid (grow_block P.out hb)
              replace HG := hid (grow_block HG.out hb)
              replace H16 := hid (grow_block H16.out hb)
              replace R1 := hid (R1.out.grow hb)
              replace R2 := hid (R2.out.grow hb)
              replace R3 := hid (R3.out.grow hb)
              clear hb
              refine wpList_nil ?_
              go_wp2_with fail
              go_roundg (m + 1 - (j + 1))
              case rel => exact ⟨j + 1, y9, by omega, by omega, rfl, by go_num, YN, HG, P, HB⟩
              case measure => omega
      · have ti : ((j : Int) == 1) = false := by simp; omega
        clear hj1
        go_wp2_with fail
        clear ti
        obtain ⟨z0, hz0⟩ : ∃ z, z = N - x := ⟨_, rfl⟩
        have hsub : (N : Int) - (x : Int) = (z0 : Int) := by have := XN.out; omega
        have HLE := hid (fun w (hg : IsSg w g 8 r seed key (x : Int)) => sgLeft g 8 r seed key x N HNK.out XN.out (by omega) LK.out w hg)
        rw [← hz0] at HLE
        have x1 : (x : Int) ≤ (N : Int) := by have := XN.out; omega
        clear hz0
        go_wp2_with fail
        refine (sgNext g 8 r seed key x LK.out _ HG.out).mono ?_
        rintro e w21 ⟨rfl, hb⟩
        replace HB := hid (Grow.trans HB.out hb)
        replace P := hid (grow_block P.out hb)
        replace HG := hid (grow_block HG.out hb)
        replace H16 := hid (grow_block H16.out hb)
        clear hb
        go_wp2_with fail
        refine (HLE.out _ HG.out).mono ?_
        rintro e w22 ⟨rfl, hb⟩
        replace HB := hid (Grow.trans HB.out hb)
        replace P := hid (grow_block P.out hb)
        replace HG := hid (grow_block HG.out hb)
        replace H16 := hid (grow_block H16.out hb)
        clear hb
        go_wp2_with (first | (refine opG_loadB rfl rfl rfl P.out Try.underlying44 rfl rfl ?_) | (refine opG_load1 rfl rfl rfl P.out rfl Try.underlying3 rfl ?_) | (refine op_loadId rfl rfl rfl H16.out (S32.out) ?_) |  fail)
        by_cases hsp : x = N
        · have tsp : ((x : Int) == (N : Int)) = true := by simp; omega
          have HGN := hid (show IsSg _ g 8 r seed key (N : Int) from by rw [← hsp]; exact HG.out)
          clear hsp
          refine (sgSign_spent g 8 r seed key N s S32.out HNK.out (by omega) LK.out _ HGN.out).mono ?_
          rintro e w23 ⟨rfl, hb⟩
          replace HB := hid (Grow.trans HB.out hb)
          replace P := hid (grow_block P.out hb)
          replace HG := hid (grow_block HG.out hb)
          replace H16 := hid (grow_block H16.out hb)
          clear hb
          go_wp2_with (refine op_allocstoreSig rfl rfl rfl rfl rfl rfl (fun _ => rfl) (fun _ => rfl) rfl nilSig_one ?_)
          intro g18 w18 hgl hgu hb hr
          replace HB := hid (Grow.trans HB.out hb)
          replace P := hid (grow_block P.out hb)
          replace HG := hid (grow_block HG.out hb)
          replace H16 := hid (grow_block H16.out hb)
          clear hb
          have H18 := hid hr
          clear hgl hgu hr
          go_wp2_with (first | (refine opG_loadB rfl rfl rfl H18.out Try.underlying88 rfl rfl ?_) | (refine opG_build (ps := #[]) rfl rfl (by simp) HB0.out ?_))
          refine (refSame8 0 none none none none none none 0 0 0 0 0 0 0 0 0 0 0 0 [] [] [] _ (idRow_nil _ _) (idRow_nil _ _) (idRow_nil _ _) (idRow_nil _ _) (idRow_nil _ _) (idRow_nil _ _) rfl rfl rfl rfl rfl rfl (fun _ h => by cases h) (fun _ h => by cases h) (fun _ h => by cases h)).mono ?_
          rintro e w24 ⟨rfl, hb⟩
          replace HB := hid (Grow.trans HB.out hb)
          replace P := hid (grow_block P.out hb)
          replace HG := hid (grow_block HG.out hb)
          replace H16 := hid (grow_block H16.out hb)
          clear hb
          go_wp2_with fail
          go_roundg (m + 1 - (j + 1))
          case rel => exact ⟨j + 1, x, by omega, by omega, rfl, by go_num, XN, HG, P, HB⟩
          case measure => omega
        · have tsp : ((x : Int) == (N : Int)) = false := by simp; omega
          have hlt : x < N := by have := XN.out; omega
          obtain ⟨y9, hy9⟩ : ∃ q, q = x + 1 := ⟨_, rfl⟩
          have hx1 : (x : Int) + 1 = (y9 : Int) := by omega
          have YN := hid (show y9 ≤ N by omega)
          have HFT := hid (fits_own r x (rowOf (shownG seed x s) 8).length (rowOf (hiddenG seed x s) 8).length (wayOf seed 8 r x).length HKT.out (by rw [← HN2.out]; exact hlt) (rowOf_length _ _) (rowOf_length _ _) (wayOf_length _ _ _ _))
          have HVO := hid (HVA.out x s hlt)
          have E1 := hid (rowOf_32 _ (shownG_length seed x s) 8)
          have E2 := hid (rowOf_32 _ (hiddenG_length seed x s) 8)
          have E3 := hid (wayOf_32 seed 8 r x)
          have HSG := hid (fun w => refSign8 8 r (by omega) (by have := HR3.out; omega) seed hs x (by rw [← HN2.out]; exact hlt) s S32.out w)
          refine (sgSign g 8 r seed hs key x N s S32.out HKT.out HN2.out hlt LK.out _ HG.out).mono ?_
          intro e wq hr
          obtain ⟨B1, d1, B2, d2, B3, d3, rfl, r1, r2, r3, hg2, hgb⟩ := hr.sl
          rw [← hy9] at hg2
          have R1 := hid r1
          have R2 := hid r2
          have R3 := hid r3
          have P' := hid (blk_other hgb P.out NE11.out)
          have H16' := hid (blk_other hgb H16.out NE16.out)
          have HB' := hid (below_upd HB.out hgb HB.out.size GB.out)
          have HG' := hid hg2
          clear hr r1 r2 r3 hg2 hgb hy9 hlt
          replace P := P'
          replace H16 := H16'
          replace HB := HB'
          replace HG := HG'
          clear P' H16' HB' HG'
          go_wp2_with (refine op_allocstoreSig rfl rfl rfl rfl rfl rfl (fun _ => rfl) (fun _ => rfl) rfl sig_one ?_)
          intro g18 w18 hgl hgu hb hr
          replace HB := hid (Grow.trans HB.out hb)
          replace P := hid (grow_block P.out hb)
          replace HG := hid (grow_block HG.out hb)
          replace H16 := hid (grow_block H16.out hb)
          replace R1 := hid (R1.out.grow hb)
          replace R2 := hid (R2.out.grow hb)
          replace R3 := hid (R3.out.grow hb)
          clear hb
          have H18 := hid hr
          clear hgl hgu hr
          go_wp2_with fail
          (refine' wp_region_head 21 0 [_, _, _, _, _, _, _, _, _, _, _, _, _, _, _, _, _, _, _, _, _] rfl (by kernel_rfl) (by kernel_rfl) ?hreg63; case' hreg63 => simp only [List.take_succ_cons, List.take_zero, List.zip_cons_cons, List.zip_nil_right, List.drop_succ_cons, List.drop_zero, List.drop_nil])
          (refine' head_val ?dw64 ?de64 ?dr64 ?dh64; (case' dw64 => rfl); (case' de64 => (first | exact fun _ _ _ => trivial | (intro t ht w; cases ht; simp [upE]))); (case' dr64 => (intro w' hw' _; go_simp; with_reducible rfl)); (case' dh64 => (try simp only [Act.put, List.setIfInBounds_toArray, List.set_cons_zero, List.set_cons_succ]))); (refine' head_val ?dw65 ?de65 ?dr65 ?dh65; (case' dw65 => rfl); (case' de65 => (first | exact fun _ _ _ => trivial | (intro t ht w; cases ht; simp [upE]))); (case' dr65 => (intro w' hw' _; go_simp; with_reducible rfl)); (case' dh65 => (try simp only [Act.put, List.setIfInBounds_toArray, List.set_cons_zero, List.set_cons_succ]))); (refine' head_val ?dw66 ?de66 ?dr66 ?dh66; (case' dw66 => rfl); (case' de66 => (first | exact fun _ _ _ => trivial | (intro t ht w; cases ht; simp [upE]))); (case' dr66 => (intro w' hw' _; go_simp; with_reducible rfl)); (case' dh66 => (try simp only [Act.put, List.setIfInBounds_toArray, List.set_cons_zero, List.set_cons_succ])))
          (refine' head_loadB rfl ?_ rfl rfl H18.out Try.underlying88 rfl rfl ?_; (first | exact fun _ _ _ => trivial | (intro t ht w; cases ht; simp [upE])); try simp only [Act.put, List.setIfInBounds_toArray, List.set_cons_zero, List.set_cons_succ])
          (refine' head_loadB rfl ?_ rfl rfl P.out Try.underlying44 rfl rfl ?_; (first | exact fun _ _ _ => trivial | (intro t ht w; cases ht; simp [upE])); try simp only [Act.put, List.setIfInBounds_toArray, List.set_cons_zero, List.set_cons_succ])
          (refine' head_val ?dw67 ?de67 ?dr67 ?dh67; (case' dw67 => rfl); (case' de67 => (first | exact fun _ _ _ => trivial | (intro t ht w; cases ht; simp [upE]))); (case' dr67 => (intro w' hw' _; go_simp; with_reducible rfl)); (case' dh67 => (try simp only [Act.put, List.setIfInBounds_toArray, List.set_cons_zero, List.set_cons_succ]))); (refine' head_val ?dw68 ?de68 ?dr68 ?dh68; (case' dw68 => rfl); (case' de68 => (first | exact fun _ _ _ => trivial | (intro t ht w; cases ht; simp [upE]))); (case' dr68 => (intro w' hw' _; go_simp; with_reducible rfl)); (case' dh68 => (try simp only [Act.put, List.setIfInBounds_toArray, List.set_cons_zero, List.set_cons_succ])))
          (refine' head_loadId (x := _) rfl ?_ rfl rfl H16.out (S32.out) ?_; (first | exact fun _ _ _ => trivial | (intro t ht w; cases ht; simp [upE])); try simp only [Act.put, List.setIfInBounds_toArray, List.set_cons_zero, List.set_cons_succ])
          (refine' head_sig (hV := rfl) (leaf := x) (xs := rowOf (shownG seed x s) 8) (ys := rowOf (hiddenG seed x s) 8) (zs := wayOf seed 8 r x) ?cw69 ?ce69 ?cr69 ?cc69 ?ch69; (case' cw69 => rfl); (case' ce69 => (first | exact fun _ _ _ => trivial | (intro t ht w; cases ht; simp [upE]))); (case' cr69 => (intro w'; go_simp; first | exact ⟨rfl, rfl⟩ | with_reducible rfl)); (case' cc69 => (intro w' hw' hE; exact HSG.out w')); (case' ch69 => (intro A1 c1 A2 c2 A3 c3; try simp only [Act.put, List.setIfInBounds_toArray, List.set_cons_zero, List.set_cons_succ])))
          (refine' head_call ?cw70 ?ce70 ?cr70 ?cc70 ?ch70; (case' cw70 => rfl); (case' ce70 => (first | exact fun _ _ _ => trivial | (intro t ht w; cases ht; simp [upE]))); (case' cr70 => (intro w'; go_simp; first | exact ⟨rfl, rfl⟩ | with_reducible rfl)); (case' cc70 => (intro w' hw' hE; exact refSame8 x B1 B2 B3 A1 A2 A3 _ _ _ _ _ _ d1 d2 d3 c1 c2 c3 _ _ _ w' (R1.out.grow hw') (R2.out.grow hw') (R3.out.grow hw') (sig_at (hE 132 (by decide))).1 (sig_at (hE 132 (by decide))).2.1 (sig_at (hE 132 (by decide))).2.2 rfl rfl rfl rfl rfl rfl E1.out E2.out E3.out)); (case' ch70 => (try simp only [Act.put, List.setIfInBounds_toArray, List.set_cons_zero, List.set_cons_succ])))
          (refine' head_val ?dw71 ?de71 ?dr71 ?dh71; (case' dw71 => rfl); (case' de71 => (first | exact fun _ _ _ => trivial | (intro t ht w; cases ht; simp [upE]))); (case' dr71 => (intro w' hw' _; go_simp; with_reducible rfl)); (case' dh71 => (try simp only [Act.put, List.setIfInBounds_toArray, List.set_cons_zero, List.set_cons_succ]))); (refine' head_val ?dw72 ?de72 ?dr72 ?dh72; (case' dw72 => rfl); (case' de72 => (first | exact fun _ _ _ => trivial | (intro t ht w; cases ht; simp [upE]))); (case' dr72 => (intro w' hw' _; go_simp; with_reducible rfl)); (case' dh72 => (try simp only [Act.put, List.setIfInBounds_toArray, List.set_cons_zero, List.set_cons_succ]))); (refine' head_val ?dw73 ?de73 ?dr73 ?dh73; (case' dw73 => rfl); (case' de73 => (first | exact fun _ _ _ => trivial | (intro t ht w; cases ht; simp [upE]))); (case' dr73 => (intro w' hw' _; go_simp; with_reducible rfl)); (case' dh73 => (try simp only [Act.put, List.setIfInBounds_toArray, List.set_cons_zero, List.set_cons_succ])))
          (refine' head_loadB rfl ?_ rfl rfl P.out Try.underlying44 rfl rfl ?_; (first | exact fun _ _ _ => trivial | (intro t ht w; cases ht; simp [upE])); try simp only [Act.put, List.setIfInBounds_toArray, List.set_cons_zero, List.set_cons_succ])
          (refine' head_val ?dw74 ?de74 ?dr74 ?dh74; (case' dw74 => rfl); (case' de74 => (first | exact fun _ _ _ => trivial | (intro t ht w; cases ht; simp [upE]))); (case' dr74 => (intro w' hw' _; go_simp; with_reducible rfl)); (case' dh74 => (try simp only [Act.put, List.setIfInBounds_toArray, List.set_cons_zero, List.set_cons_succ])))
          (refine' head_call ?cw75 ?ce75 ?cr75 ?cc75 ?ch75; (case' cw75 => rfl); (case' ce75 => (first | exact fun _ _ _ => trivial | (intro t ht w; cases ht; simp [upE]))); (case' cr75 => (intro w'; go_simp; first | exact ⟨rfl, rfl⟩ | with_reducible rfl)); (case' cc75 => (intro w' hw' _; exact sgKey g 8 r seed key y9 LK.out w' (grow_block HG.out hw'))); (case' ch75 => (try simp only [Act.put, List.setIfInBounds_toArray, List.set_cons_zero, List.set_cons_succ])))
          (refine' head_loadId (x := _) rfl ?_ rfl rfl H16.out (S32.out) ?_; (first | exact fun _ _ _ => trivial | (intro t ht w; cases ht; simp [upE])); try simp only [Act.put, List.setIfInBounds_toArray, List.set_cons_zero, List.set_cons_succ])
          (refine' head_loadB rfl ?_ rfl rfl H18.out Try.underlying88 rfl rfl ?_; (first | exact fun _ _ _ => trivial | (intro t ht w; cases ht; simp [upE])); try simp only [Act.put, List.setIfInBounds_toArray, List.set_cons_zero, List.set_cons_succ])
          (refine' head_call ?cw76 ?ce76 ?cr76 ?cc76 ?ch76; (case' cw76 => rfl); (case' ce76 => (first | exact fun _ _ _ => trivial | (intro t ht w; cases ht; simp [upE]))); (case' cr76 => (intro w'; go_simp; first | exact ⟨rfl, rfl⟩ | with_reducible rfl)); (case' cc76 => (intro w' hw' _; exact HVO.out ▸ sgVerify 8 r x key s LK.out S32.out w' B1 B2 B3 _ _ _ d1 d2 d3 _ _ _ (R1.out.grow hw') (R2.out.grow hw') (R3.out.grow hw') rfl rfl rfl E1.out E2.out E3.out HFT.out)); (case' ch76 => (try simp only [Act.put, List.setIfInBounds_toArray, List.set_cons_zero, List.set_cons_succ])))
          (refine' head_val ?dw77 ?de77 ?dr77 ?dh77; (case' dw77 => rfl); (case' de77 => (first | exact fun _ _ _ => trivial | (intro t ht w; cases ht; simp [upE]))); (case' dr77 => (intro w' hw' _; go_simp; with_reducible rfl)); (case' dh77 => (try simp only [Act.put, List.setIfInBounds_toArray, List.set_cons_zero, List.set_cons_succ]))); (refine' head_val ?dw78 ?de78 ?dr78 ?dh78; (case' dw78 => rfl); (case' de78 => (first | exact fun _ _ _ => trivial | (intro t ht w; cases ht; simp [upE]))); (case' dr78 => (intro w' hw' _; go_simp; with_reducible rfl)); (case' dh78 => (try simp only [Act.put, List.setIfInBounds_toArray, List.set_cons_zero, List.set_cons_succ])))
          refine head_nil ?_
          intro w25 hb _
          replace HB := hid (Grow.trans HB.out hb)
          replace P := hid (grow_block P.out hb)
          replace HG := hid (grow_block HG.out hb)
          replace H16 := hid (grow_block H16.out hb)
          replace R1 := hid (R1.out.grow hb)
          replace R2 := hid (R2.out.grow hb)
          replace R3 := hid (R3.out.grow hb)
          clear hb
          refine wpList_nil ?_
          go_wp2_with fail
          go_roundg (m + 1 - (j + 1))
          case rel => exact ⟨j + 1, y9, by omega, by omega, rfl, by go_num, YN, HG, P, HB⟩
          case measure => omega
    · obtain rfl : j = m := by omega
      go_wp2_with fail
      refine (awake08 _).mono ?_
      rintro e w26 ⟨rfl, hb⟩
      replace HB := hid (Grow.trans HB.out hb)
      replace P := hid (grow_block P.out hb)
      replace HG := hid (grow_block HG.out hb)
      clear hb
      go_wp2
      go_ret
      exact ⟨rfl, HB.out⟩
theorem signerSigns (k : Nat) (hk : k < 256) (seed : ByteArray) (hsz : seed.size ≤ 140737488351232) (next : Int) (A : Option Addr) (m c : Nat) (xs : List IdK) (skip : Int) (w : World) (hx : IdRow w A xs) (hm : xs.length = m) (h32 : ∀ s ∈ xs, s.length = 32) :
    Calls Try.prog 14 #[.int .u8 (k : Int), .string seed, .int .i64 next, .slice A m c, .int .i64 skip] w fun e w' => e = .returned (.bool true) ∧ Below w.heap.size w w' := by
  by_cases hlg : 100 < seed.size ∨ 6 < m
  · exact signerSigns_long k hk seed hsz next A m c xs skip w hx hm h32 hlg
  · by_cases hnx : 0 ≤ next ∧ next ≤ ((2 ^ (k % 3) : Nat) : Int)
    · exact signerSigns_good k hk seed hsz next A m c xs skip w hx hm h32 (by omega) (by omega) hnx
    · exact signerSigns_out k hk seed hsz next A m c xs skip w hx hm h32 (by omega) (by omega) (by omega)
theorem signerSignsI (a : Int) (hw : (Lit.int .u8 a).wf = true) (seed : ByteArray) (hsz : seed.size ≤ 140737488351232) (next : Int) (A : Option Addr) (m c : Nat) (xs : List IdK) (skip : Int) (w : World) (hx : IdRow w A xs) (hm : xs.length = m) (h32 : ∀ s ∈ xs, s.length = 32) :
    Calls Try.prog 14 #[.int .u8 a, .string seed, .int .i64 next, .slice A m c, .int .i64 skip] w fun e w' => e = .returned (.bool true) ∧ Below w.heap.size w w' := by
  obtain ⟨k, rfl, hk⟩ : ∃ k : Nat, a = (k : Int) ∧ k < 256 := by
    simp [Lit.wf, IntKind.min, IntKind.max, IntKind.signed, IntKind.bits] at hw
    exact ⟨a.toNat, by omega, by omega⟩
  exact signerSigns k hk seed hsz next A m c xs skip w hx hm h32
end Go.Proofs.Ytffgifegaagndaa
