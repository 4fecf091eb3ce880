/- The law WitnessOwn: walk. -/
import Derived.Test.YtabkaflccaklhaaGreatQWitRS
set_option linter.unusedSimpArgs false
set_option linter.unusedVariables false
namespace Go.Proofs.YtabkaflccaklhaaGreat
open Go.RowKit
open Go.Qk hiding rotr b4
set_option maxHeartbeats 4000000
set_option maxRecDepth 100000
theorem ownC9_length (seed : ByteArray) (b leaf : Nat) (fs : List WRow) (sum : IdK) : (ownC9 seed b leaf fs sum).length = 38 := by
  unfold ownC9
  split
  · rfl
  · cases firstW b fs sum leaf with
    | none => rfl
    | some k => exact witC_length (secretOf_length _ _ _ _)
theorem ownC9_one (seed : ByteArray) (b leaf : Nat) (fs : List WRow) (sum : IdK) : ∀ u ∈ ownC9 seed b leaf fs sum, u.oneCell' = true := by
  unfold ownC9
  split
  · exact witC_one _ _ _ _ _ _ _
  · cases firstW b fs sum leaf with
    | none => exact witC_one _ _ _ _ _ _ _
    | some k => exact witC_one _ _ _ _ _ _ _
theorem wit_guardT (op : BinOp) (F G : List Value) (x y : Operand) (w : World) : (Go.eqGuard op 61 x y (.agg F.toArray) (.agg G.toArray)).run Tryz.prog w = .ok () w :=
  run_eqGuard_agg w op 61 x y _ _ (by kernel_rfl)
theorem witnessOwn_long (k : Nat) (hk : k < 256) (seed : ByteArray) (hsz : seed.size ≤ 140737488351232) (A : Option Addr) (n c : Nat) (hn9 : n ≤ 9223372036854775807) (lf : Int) (sum : IdK) (hs : sum.length = 32) (w : World) (hlg : 60 < seed.size ∨ 20 < n) :
    Calls Tryz.prog 4 #[.int .u8 (k : Int), .string seed, .slice A n c, .int .u8 lf, idV sum] w fun e w' => e = .returned (.bool true) ∧ Below w.heap.size w w' := by
  have k0 : (0 : Int) ≤ (k : Int) := by omega
  have k1 : (k : Int) ≤ 255 := by omega
  obtain ⟨r, hr0⟩ : ∃ r, r = k % 3 := ⟨_, rfl⟩
  have hr2 : (k : Int) % 3 = (r : Int) := by omega
  have hw : IntKind.i64.wrap (k : Int) = (k : Int) := IntWalk.i64_in _ (by omega)
  have HS := hid hs
  clear hk hr0 hs
  by_cases h1 : 60 < seed.size
  · have t1 : decide ((60 : Int) < (seed.size : Int)) = true := by simp; omega
    clear hlg h1
    go_enter Tryz.func4, Tryz.ntmps4
    have HB := hid (grow_refl w)
    apply wp_seq_k; intro _ _; apply wp_region_lit
    refine op_box (l := sum) rfl rfl rfl ?_
    intro gs w1 hgl hgu hb hr
    have XL := hid (Nat.le_trans HB.out.size hgl)
    replace HB := hid (Grow.trans HB.out hb)
    have X := hid hr; have XU := hid hgu
    clear hr hgl hgu hb
    try simp only [Act.put, List.setIfInBounds_toArray, List.set_cons_zero, List.set_cons_succ]
    go_wp2_with (first | (refine op_allocstoreB (z := [.int .i64 0, .int .i64 0]) (cs := [.int .i64 8, .int .i64 (r : Int)]) rfl rfl rfl rfl rfl rfl (fun _ => by kernel_rfl) (fun _ => rfl) (fun _ => rfl) rfl (by kernel_rfl) (by intro v hv; simp at hv; rcases hv with rfl | rfl <;> rfl) ?_) | fail)
    intro gp w2 hgl hgu hb hr
    replace HB := hid (Grow.trans HB.out hb)
    replace X := hid (grow_block X.out hb)
    clear hb
    clear hgl hgu hr
    go_wp2_with fail
    refine (awake09 _).mono ?_
    rintro e w2 ⟨rfl, hb⟩
    replace HB := hid (Grow.trans HB.out hb)
    replace X := hid (grow_block X.out hb)
    clear hb
    go_wp2
    go_ret
    exact ⟨rfl, HB.out⟩
  · have t1 : decide ((60 : Int) < (seed.size : Int)) = false := by simp; omega
    have t2 : decide ((20 : Int) < (n : Int)) = true := by simp; omega
    clear hlg h1
    go_enter Tryz.func4, Tryz.ntmps4
    have HB := hid (grow_refl w)
    apply wp_seq_k; intro _ _; apply wp_region_lit
    refine op_box (l := sum) rfl rfl rfl ?_
    intro gs w3 hgl hgu hb hr
    have XL := hid (Nat.le_trans HB.out.size hgl)
    replace HB := hid (Grow.trans HB.out hb)
    have X := hid hr; have XU := hid hgu
    clear hr hgl hgu hb
    try simp only [Act.put, List.setIfInBounds_toArray, List.set_cons_zero, List.set_cons_succ]
    go_wp2_with (first | (refine op_allocstoreB (z := [.int .i64 0, .int .i64 0]) (cs := [.int .i64 8, .int .i64 (r : Int)]) rfl rfl rfl rfl rfl rfl (fun _ => by kernel_rfl) (fun _ => rfl) (fun _ => rfl) rfl (by kernel_rfl) (by intro v hv; simp at hv; rcases hv with rfl | rfl <;> rfl) ?_) | fail)
    intro gp w2 hgl hgu hb hr
    replace HB := hid (Grow.trans HB.out hb)
    replace X := hid (grow_block X.out hb)
    clear hb
    clear hgl hgu hr
    go_wp2_with fail
    refine (awake09 _).mono ?_
    rintro e w4 ⟨rfl, hb⟩
    replace HB := hid (Grow.trans HB.out hb)
    replace X := hid (grow_block X.out hb)
    clear hb
    go_wp2
    go_ret
    exact ⟨rfl, HB.out⟩
theorem witnessOwn_good (w : World) (k : Nat) (hk : k < 256) (seed : ByteArray) (h60 : ¬ 60 < seed.size) (A : Option Addr) (n c : Nat) (h20 : ¬ 20 < n) (fs : List WRow) (hx : WrRow w A fs) (hn : fs.length = n) (h32 : ∀ x ∈ fs, x.2.length = 32) (lf : Nat) (hlf : lf < 256) (sum : IdK) (hs : sum.length = 32) :
    Calls Tryz.prog 4 #[.int .u8 (k : Int), .string seed, .slice A n c, .int .u8 (lf : Int), idV sum] w fun e w' => e = .returned (.bool true) ∧ Below w.heap.size w w' := by
  have k0 : (0 : Int) ≤ (k : Int) := by omega
  have k1 : (k : Int) ≤ 255 := by omega
  obtain ⟨r, hr0⟩ : ∃ r, r = k % 3 := ⟨_, rfl⟩
  have hr2 : (k : Int) % 3 = (r : Int) := by omega
  have hr3 : r ≤ 2 := by omega
  have hw : IntKind.i64.wrap (k : Int) = (k : Int) := IntWalk.i64_in _ (by omega)
  have l0 : (0 : Int) ≤ (lf : Int) := by omega
  have l1 : (lf : Int) ≤ 255 := by omega
  have hw2 : IntKind.i64.wrap (lf : Int) = (lf : Int) := IntWalk.i64_in _ (by omega)
  have t1 : decide ((60 : Int) < (seed.size : Int)) = false := by simp; omega
  have t2 : decide ((20 : Int) < (n : Int)) = false := by simp; omega
  have hsd : seed.size ≤ 1000000 := by omega
  have hkt : ktB 8 (r : Int) = true := by unfold ktB; rw [show rightB 8 = true by decide]; simp; omega
  have HPW := hid (fun w => refPower7 r (by omega) w)
  have hNp : 0 < 2 ^ r := Nat.pow_pos (by omega)
  obtain ⟨at_, hat⟩ : ∃ a, a = lf % 2 ^ r := ⟨_, rfl⟩
  have hatl : at_ < 2 ^ r := by rw [hat]; exact Nat.mod_lt _ hNp
  have hrem : (lf : Int) % ((2 ^ r : Nat) : Int) = (at_ : Int) := by rw [hat]; rfl
  have HSG := hid (fun w => refSign8C 8 r (by omega) (by omega) seed hsd at_ hatl sum hs w)
  have HFD := hid (fun (A1 A2 A3 : Option Addr) (c1 c2 c3 : Nat) (w : World) (q0 : WrRow w A fs) (q1 : IdRow w A1 (rowOf (shownG seed at_ sum) 8)) (q2 : IdRow w A2 (rowOf (hiddenG seed at_ sum) 8)) (q3 : IdRow w A3 (wayOf seed 8 r at_)) (q4 : (wayOf seed 8 r at_).length ≤ c3) =>
    wFind_own seed hsd r hkt hr3 A n c fs sum hs at_ hatl A1 A2 A3 _ _ _ c1 c2 c3 w q0 hn h32 q1 q2 q3 rfl rfl rfl q4)
  have HPL := hid (fun w q => plain09 A n c fs w q hn h32 (by omega))
  have HHO := hid (fun A c w q => refHonest9 8 (by omega) A n c fs sum hs at_ w q hn h32)
  have HFI := hid (fun A c w q => refFirst9 8 (by omega) A n c fs sum hs at_ w q hn h32)
  have HX := hid hx
  have HN := hid hn
  have H32 := hid h32
  have HS := hid hs
  have hN4 : 2 ^ r ≤ 4 := by
    have : 2 ^ r ≤ 2 ^ 2 := Nat.pow_le_pow_right (by omega) hr3
    omega
  have HSE := hid (fun (b : Nat) w => refSecret seed at_ b (bitI sum b) hsd w)
  have HSL := hid (fun (b : Nat) => secretOf_length seed at_ b (bitI sum b))
  have HBT := hid (fun (b : Nat) (h : b < 8) w => refBit6 sum hs b (by omega) w)
  have HOD := hid (show ownC9 seed 8 at_ fs sum = if honestW 8 fs sum at_ then witC 1 [] [] 0 0 0 (zero8 32) else
    match firstW 8 fs sum at_ with
    | some k => witC 3 [] [] at_ k (bitI sum k) (secretOf seed at_ k (bitI sum k))
    | none => witZ from rfl)
  have HOL := hid (ownC9_length seed 8 at_ fs sum)
  have HOO := hid (ownC9_one seed 8 at_ fs sum)
  generalize ownC9 seed 8 at_ fs sum = F at *
  generalize rowOf (shownG seed at_ sum) 8 = xs at *
  generalize rowOf (hiddenG seed at_ sum) 8 = ys at *
  generalize wayOf seed 8 r at_ = zs at *
  generalize 2 ^ r = N at *
  have N0 : (0 : Int) < (N : Int) := by omega
  have N4 : (N : Int) ≤ 4 := by omega
  have a4 : (at_ : Int) ≤ 4 := by omega
  have n20 : n ≤ 20 := by omega
  clear hk hr0 hs hkt hat hatl hx hn h32 h60 h20 hlf hsd hNp hN4
  go_enter Tryz.func4, Tryz.ntmps4
  have HB := hid (grow_refl w)
  apply wp_seq_k; intro _ _; apply wp_region_lit
  refine op_box (l := sum) rfl rfl rfl ?_
  intro gs w1 hgl hgu hb hr
  have XL := hid (Nat.le_trans HB.out.size hgl)
  replace HB := hid (Grow.trans HB.out hb)
  replace HX := hid (HX.out.grow hb)
  have X := hid hr; have XU := hid hgu
  clear hr hgl hgu hb
  try simp only [Act.put, List.setIfInBounds_toArray, List.set_cons_zero, List.set_cons_succ]
  go_wp2_with (first | (refine op_allocstoreB (z := [.int .i64 0, .int .i64 0]) (cs := [.int .i64 8, .int .i64 (r : Int)]) rfl rfl rfl rfl rfl rfl (fun _ => by kernel_rfl) (fun _ => rfl) (fun _ => rfl) rfl (by kernel_rfl) (by intro v hv; simp at hv; rcases hv with rfl | rfl <;> rfl) ?_) | fail)
  intro gp wp hgl hgu hb hr
  replace HB := hid (Grow.trans HB.out hb)
  replace HX := hid (HX.out.grow hb)
  replace X := hid (grow_block X.out hb)
  clear hb
  have P := hid (show wp.heap[gp]? = some (.cells #[.int .i64 8, .int .i64 (r : Int)] 54 (0, 0)) from hr)
  clear hgl hgu hr
  go_wp2_with (first | (refine opG_loadB rfl rfl rfl P.out Tryz.underlying54 rfl rfl ?_) | (refine opG_load1 rfl rfl rfl P.out rfl Tryz.underlying3 rfl ?_) | (refine op_loadId rfl rfl rfl X.out (HS.out) ?_) |  fail)
  refine (HPW.out _).mono ?_
  rintro e w2 ⟨rfl, hb⟩
  replace HB := hid (Grow.trans HB.out hb)
  replace HX := hid (HX.out.grow hb)
  replace X := hid (grow_block X.out hb)
  replace P := hid (grow_block P.out hb)
  clear hb
  go_wp2_with (first | (refine opG_loadB rfl rfl rfl P.out Tryz.underlying54 rfl rfl ?_) | (refine opG_load1 rfl rfl rfl P.out rfl Tryz.underlying3 rfl ?_) | (refine op_loadId rfl rfl rfl X.out (HS.out) ?_) |  fail)
  refine (HSG.out _).mono ?_
  rintro _ ws ⟨v, rfl, hsg, hb⟩
  replace HB := hid (Grow.trans HB.out hb)
  replace HX := hid (HX.out.grow hb)
  replace X := hid (grow_block X.out hb)
  replace P := hid (grow_block P.out hb)
  clear hb
  obtain ⟨A1, c1, A2, c2, A3, c3, rfl, s1, s2, s3, s4, s5, s6⟩ := hsg
  have R1 := hid s1
  have R2 := hid s2
  have R3 := hid s3
  have K3 := hid s6
  clear s1 s2 s3 s4 s5 s6
  go_wp2_with (first | (refine op_allocstoreSig rfl rfl rfl rfl rfl rfl (fun _ => rfl) (fun _ => rfl) rfl sig_one ?_) | fail)
  intro g13 w13 hgl hgu hb hr
  replace HB := hid (Grow.trans HB.out hb)
  replace HX := hid (HX.out.grow hb)
  replace X := hid (grow_block X.out hb)
  replace P := hid (grow_block P.out hb)
  replace R1 := hid (R1.out.grow hb)
  replace R2 := hid (R2.out.grow hb)
  replace R3 := hid (R3.out.grow hb)
  clear hb
  have G := hid hr
  clear hgl hgu hr
  go_wp2_with (first | (refine opG_loadB rfl rfl rfl P.out Tryz.underlying54 rfl rfl ?_) | (refine opG_load1 rfl rfl rfl P.out rfl Tryz.underlying3 rfl ?_) | (refine opG_loadB rfl rfl rfl G.out Tryz.underlying58 rfl rfl ?_) | (refine op_loadId rfl rfl rfl X.out (HS.out) ?_) |  fail)
  refine (HFD.out A1 A2 A3 c1 c2 c3 _ HX.out R1.out R2.out R3.out K3.out).mono ?_
  rintro e w3 ⟨rfl, hb⟩
  replace HB := hid (Grow.trans HB.out hb)
  replace HX := hid (HX.out.grow hb)
  replace X := hid (grow_block X.out hb)
  replace P := hid (grow_block P.out hb)
  replace R1 := hid (R1.out.grow hb)
  replace R2 := hid (R2.out.grow hb)
  replace R3 := hid (R3.out.grow hb)
  replace G := hid (grow_block G.out hb)
  clear hb
  go_wp2_with (first | (refine op_allocstoreB (z := witZ) (cs := F) rfl rfl rfl rfl rfl rfl (fun _ => by kernel_rfl) (fun _ => rfl) (fun _ => rfl) (by rw [HOL.out]; rfl) (by rw [infoWit, HOL.out]) HOO.out ?_) | fail)
  intro g14 w14 hgl hgu hb hr
  replace HB := hid (Grow.trans HB.out hb)
  replace HX := hid (HX.out.grow hb)
  replace X := hid (grow_block X.out hb)
  replace P := hid (grow_block P.out hb)
  replace R1 := hid (R1.out.grow hb)
  replace R2 := hid (R2.out.grow hb)
  replace R3 := hid (R3.out.grow hb)
  replace G := hid (grow_block G.out hb)
  clear hb
  have W := hid hr
  clear hgl hgu hr
  clear G R1 R2 R3 K3
  go_wp2_with (first | (refine opG_loadB rfl rfl rfl P.out Tryz.underlying54 rfl rfl ?_) | (refine opG_load1 rfl rfl rfl P.out rfl Tryz.underlying3 rfl ?_) | (refine op_loadId rfl rfl rfl X.out (HS.out) ?_) |  fail)
  refine (HPL.out _ HX.out).mono ?_
  rintro _ wq ⟨v, rfl, ho, hb⟩
  replace HB := hid (Grow.trans HB.out hb)
  replace HX := hid (HX.out.grow hb)
  replace X := hid (grow_block X.out hb)
  replace P := hid (grow_block P.out hb)
  replace W := hid (grow_block W.out hb)
  clear hb
  obtain ⟨Ap, cp, rfl, hrow⟩ := wrRow_own ho HN.out H32.out (by omega)
  have RP := hid hrow
  clear ho hrow
  go_wp2_with (first | (refine opG_loadB rfl rfl rfl P.out Tryz.underlying54 rfl rfl ?_) | (refine opG_load1 rfl rfl rfl P.out rfl Tryz.underlying3 rfl ?_) | (refine op_loadId rfl rfl rfl X.out (HS.out) ?_) |  fail)
  refine (HHO.out Ap cp _ RP.out).mono ?_
  rintro e w4 ⟨rfl, hb⟩
  replace HB := hid (Grow.trans HB.out hb)
  replace HX := hid (HX.out.grow hb)
  replace X := hid (grow_block X.out hb)
  replace P := hid (grow_block P.out hb)
  replace W := hid (grow_block W.out hb)
  replace RP := hid (RP.out.grow hb)
  clear hb
  cases hho : honestW 8 fs sum at_ with
  | true =>
    have HFE := hid (show F = witC 1 [] [] 0 0 0 (zero8 32) by rw [HOD.out, hho]; rfl)
    rw [HFE.out] at W
    have HBD := hid run_buildWit1
    have hq1 := wit_eql_self 1 [] [] 0 0 0 (zero8 32) rfl
    have hq2 := wit_guardT .eql (witC 1 [] [] 0 0 0 (zero8 32)) (witC 1 [] [] 0 0 0 (zero8 32))
    clear HOD hho HOL HOO
    go_wp2_with (first | (refine opG_loadB rfl rfl rfl W.out Tryz.underlying61 rfl rfl ?_) | (refine opG_build (ps := #[(0, .int .i64 1)]) rfl rfl (by simp only [List.map_toArray, List.map_cons, List.map_nil]; rfl) HBD.out ?_) | fail)
    refine (awake09 _).mono ?_
    rintro e w5 ⟨rfl, hb⟩
    replace HB := hid (Grow.trans HB.out hb)
    replace HX := hid (HX.out.grow hb)
    replace X := hid (grow_block X.out hb)
    replace P := hid (grow_block P.out hb)
    replace W := hid (grow_block W.out hb)
    replace RP := hid (RP.out.grow hb)
    clear hb
    go_wp2_with fail
    go_ret
    exact ⟨rfl, HB.out⟩
  | false =>
    have HOD2 := hid (show F = match firstW 8 fs sum at_ with
      | some k => witC 3 [] [] at_ k (bitI sum k) (secretOf seed at_ k (bitI sum k))
      | none => witZ by rw [HOD.out, hho]; rfl)
    clear HOD hho
    cases hf : firstW 8 fs sum at_ with
    | none =>
      have HV := hid (show firstI 8 fs sum at_ = -1 by unfold firstI; rw [hf])
      have HFE := hid (show F = witZ by rw [HOD2.out, hf])
      rw [HV.out] at HFI
      rw [HFE.out] at W
      have HBD := hid run_buildWit0
      have hq1 := wit_eql_self 0 [] [] 0 0 0 (zero8 32) rfl
      have hq2 := wit_guardT .eql witZ witZ
      change ∀ w, (Go.binOp .eql 61 (.agg witZ.toArray) (.agg witZ.toArray)).run Tryz.prog w = .ok (.bool true) w at hq1
      clear HOD2 hf HOL HOO
      go_wp2_with (first | (refine opG_loadB rfl rfl rfl P.out Tryz.underlying54 rfl rfl ?_) | (refine opG_load1 rfl rfl rfl P.out rfl Tryz.underlying3 rfl ?_) | (refine op_loadId rfl rfl rfl X.out (HS.out) ?_) |  fail)
      refine (HFI.out Ap cp _ RP.out).mono ?_
      rintro e w6 ⟨rfl, hb⟩
      replace HB := hid (Grow.trans HB.out hb)
      replace HX := hid (HX.out.grow hb)
      replace X := hid (grow_block X.out hb)
      replace P := hid (grow_block P.out hb)
      replace W := hid (grow_block W.out hb)
      replace RP := hid (RP.out.grow hb)
      clear hb
      go_wp2_with (first | (refine opG_loadB rfl rfl rfl W.out Tryz.underlying61 rfl rfl ?_) | (refine opG_build (ps := #[]) rfl rfl (by simp) HBD.out ?_) | fail)
      refine (awake09 _).mono ?_
      rintro e w7 ⟨rfl, hb⟩
      replace HB := hid (Grow.trans HB.out hb)
      replace HX := hid (HX.out.grow hb)
      replace X := hid (grow_block X.out hb)
      replace P := hid (grow_block P.out hb)
      replace W := hid (grow_block W.out hb)
      replace RP := hid (RP.out.grow hb)
      clear hb
      go_wp2_with fail
      go_ret
      exact ⟨rfl, HB.out⟩
    | some b =>
      have hb8 : b < 8 := List.mem_range.1 (List.mem_of_find?_eq_some hf)
      have HV := hid (show firstI 8 fs sum at_ = (b : Int) by unfold firstI; rw [hf])
      have HFE := hid (show F = witC 3 [] [] at_ b (bitI sum b) (secretOf seed at_ b (bitI sum b)) by rw [HOD2.out, hf])
      rw [HV.out] at HFI
      rw [HFE.out] at W
      have HSEb := hid (HSE.out b)
      have HSLb := hid (HSL.out b)
      have HBTb := hid (HBT.out b hb8)
      have b0 : (0 : Int) ≤ (b : Int) := by omega
      have b8 : (b : Int) ≤ 8 := by omega
      clear HOD2 hf HOL HOO HFE HSE HSL HBT hb8
      generalize bitI sum b = side at *
      generalize secretOf seed at_ b side = sec at *
      have HBD := hid (run_buildWit3 at_ b side sec HSLb.out)
      have hq1 := wit_eql_self 3 [] [] at_ b side sec HSLb.out
      have hq2 := wit_guardT .eql (witC 3 [] [] at_ b side sec) (witC 3 [] [] at_ b side sec)
      go_wp2_with (first | (refine opG_loadB rfl rfl rfl P.out Tryz.underlying54 rfl rfl ?_) | (refine opG_load1 rfl rfl rfl P.out rfl Tryz.underlying3 rfl ?_) | (refine op_loadId rfl rfl rfl X.out (HS.out) ?_) |  fail)
      refine (HFI.out Ap cp _ RP.out).mono ?_
      rintro e w8 ⟨rfl, hb⟩
      replace HB := hid (Grow.trans HB.out hb)
      replace HX := hid (HX.out.grow hb)
      replace X := hid (grow_block X.out hb)
      replace P := hid (grow_block P.out hb)
      replace W := hid (grow_block W.out hb)
      replace RP := hid (RP.out.grow hb)
      clear hb
      go_wp2_with (first | (refine opG_loadB rfl rfl rfl P.out Tryz.underlying54 rfl rfl ?_) | (refine opG_load1 rfl rfl rfl P.out rfl Tryz.underlying3 rfl ?_) | (refine op_loadId rfl rfl rfl X.out (HS.out) ?_) |  fail)
      refine (HBTb.out _).mono ?_
      rintro e w9 ⟨rfl, hb⟩
      replace HB := hid (Grow.trans HB.out hb)
      replace HX := hid (HX.out.grow hb)
      replace X := hid (grow_block X.out hb)
      replace P := hid (grow_block P.out hb)
      replace W := hid (grow_block W.out hb)
      replace RP := hid (RP.out.grow hb)
      clear hb
      go_wp2_with fail
      (refine' wp_region_head 15 0 [_, _, _, _, _, _, _, _, _, _, _, _, _, _, _] rfl (by kernel_rfl) (by kernel_rfl) ?hreg1; case' hreg1 => simp only [List.take_succ_cons, List.take_zero, List.zip_cons_cons, List.zip_nil_right, List.drop_succ_cons, List.drop_zero, List.drop_nil])
      (refine' head_loadB rfl ?_ rfl rfl W.out Tryz.underlying61 rfl (by rw [infoWit, List.size_toArray, witC_length HSLb.out]) ?_; (first | exact fun _ _ _ => trivial | (intro t ht w; cases ht; simp [upE])); try simp only [Act.put, List.setIfInBounds_toArray, List.set_cons_zero, List.set_cons_succ])
      (refine' head_val ?dw2 ?de2 ?dr2 ?dh2; (case' dw2 => rfl); (case' de2 => (first | exact fun _ _ _ => trivial | (intro t ht w; cases ht; simp [upE]))); (case' dr2 => (intro w' hw' _; go_simp; with_reducible rfl)); (case' dh2 => (try simp only [Act.put, List.setIfInBounds_toArray, List.set_cons_zero, List.set_cons_succ]))); (refine' head_val ?dw3 ?de3 ?dr3 ?dh3; (case' dw3 => rfl); (case' de3 => (first | exact fun _ _ _ => trivial | (intro t ht w; cases ht; simp [upE]))); (case' dr3 => (intro w' hw' _; go_simp; with_reducible rfl)); (case' dh3 => (try simp only [Act.put, List.setIfInBounds_toArray, List.set_cons_zero, List.set_cons_succ]))); (refine' head_val ?dw4 ?de4 ?dr4 ?dh4; (case' dw4 => rfl); (case' de4 => (first | exact fun _ _ _ => trivial | (intro t ht w; cases ht; simp [upE]))); (case' dr4 => (intro w' hw' _; go_simp; with_reducible rfl)); (case' dh4 => (try simp only [Act.put, List.setIfInBounds_toArray, List.set_cons_zero, List.set_cons_succ]))); (refine' head_val ?dw5 ?de5 ?dr5 ?dh5; (case' dw5 => rfl); (case' de5 => (first | exact fun _ _ _ => trivial | (intro t ht w; cases ht; simp [upE]))); (case' dr5 => (intro w' hw' _; go_simp; with_reducible rfl)); (case' dh5 => (try simp only [Act.put, List.setIfInBounds_toArray, List.set_cons_zero, List.set_cons_succ]))); (refine' head_val ?dw6 ?de6 ?dr6 ?dh6; (case' dw6 => rfl); (case' de6 => (first | exact fun _ _ _ => trivial | (intro t ht w; cases ht; simp [upE]))); (case' dr6 => (intro w' hw' _; go_simp; with_reducible rfl)); (case' dh6 => (try simp only [Act.put, List.setIfInBounds_toArray, List.set_cons_zero, List.set_cons_succ]))); (refine' head_val ?dw7 ?de7 ?dr7 ?dh7; (case' dw7 => rfl); (case' de7 => (first | exact fun _ _ _ => trivial | (intro t ht w; cases ht; simp [upE]))); (case' dr7 => (intro w' hw' _; go_simp; with_reducible rfl)); (case' dh7 => (try simp only [Act.put, List.setIfInBounds_toArray, List.set_cons_zero, List.set_cons_succ]))); (refine' head_val ?dw8 ?de8 ?dr8 ?dh8; (case' dw8 => rfl); (case' de8 => (first | exact fun _ _ _ => trivial | (intro t ht w; cases ht; simp [upE]))); (case' dr8 => (intro w' hw' _; go_simp; with_reducible rfl)); (case' dh8 => (try simp only [Act.put, List.setIfInBounds_toArray, List.set_cons_zero, List.set_cons_succ])))
      (refine' head_call ?cw9 ?ce9 ?cr9 ?cc9 ?ch9; (case' cw9 => rfl); (case' ce9 => (first | exact fun _ _ _ => trivial | (intro t ht w; cases ht; simp [upE]))); (case' cr9 => (intro w'; go_simp; first | exact ⟨rfl, rfl⟩ | with_reducible rfl)); (case' cc9 => (intro w' hw' _; exact HSEb.out w')); (case' ch9 => (try simp only [Act.put, List.setIfInBounds_toArray, List.set_cons_zero, List.set_cons_succ])))
      (refine' head_val (v := .agg (witC 3 [] [] at_ b side sec).toArray) ?dw10 ?de10 ?dr10 ?dh10; (case' dw10 => rfl); (case' de10 => (first | exact fun _ _ _ => trivial | (intro t ht w; cases ht; simp [upE]))); (case' dr10 => (intro w' hw' hE; exact run_opBuildW rfl (by simp only [List.map_toArray, List.map_cons, List.map_nil]; rfl) HBD.out)); (case' dh10 => (try simp only [Act.put, List.setIfInBounds_toArray, List.set_cons_zero, List.set_cons_succ])))
      (refine' head_val ?dw11 ?de11 ?dr11 ?dh11; (case' dw11 => rfl); (case' de11 => (first | exact fun _ _ _ => trivial | (intro t ht w; cases ht; simp [upE]))); (case' dr11 => (intro w' hw' _; go_simp; with_reducible rfl)); (case' dh11 => (try simp only [Act.put, List.setIfInBounds_toArray, List.set_cons_zero, List.set_cons_succ]))); (refine' head_val ?dw12 ?de12 ?dr12 ?dh12; (case' dw12 => rfl); (case' de12 => (first | exact fun _ _ _ => trivial | (intro t ht w; cases ht; simp [upE]))); (case' dr12 => (intro w' hw' _; go_simp; with_reducible rfl)); (case' dh12 => (try simp only [Act.put, List.setIfInBounds_toArray, List.set_cons_zero, List.set_cons_succ])))
      (refine' head_call ?cw13 ?ce13 ?cr13 ?cc13 ?ch13; (case' cw13 => rfl); (case' ce13 => (first | exact fun _ _ _ => trivial | (intro t ht w; cases ht; simp [upE]))); (case' cr13 => (intro w'; go_simp; first | exact ⟨rfl, rfl⟩ | with_reducible rfl)); (case' cc13 => (intro w' hw' _; exact awake09 w')); (case' ch13 => (try simp only [Act.put, List.setIfInBounds_toArray, List.set_cons_zero, List.set_cons_succ])))
      (refine' head_val ?dw14 ?de14 ?dr14 ?dh14; (case' dw14 => rfl); (case' de14 => (first | exact fun _ _ _ => trivial | (intro t ht w; cases ht; simp [upE]))); (case' dr14 => (intro w' hw' _; go_simp; with_reducible rfl)); (case' dh14 => (try simp only [Act.put, List.setIfInBounds_toArray, List.set_cons_zero, List.set_cons_succ]))); (refine' head_val ?dw15 ?de15 ?dr15 ?dh15; (case' dw15 => rfl); (case' de15 => (first | exact fun _ _ _ => trivial | (intro t ht w; cases ht; simp [upE]))); (case' dr15 => (intro w' hw' _; go_simp; with_reducible rfl)); (case' dh15 => (try simp only [Act.put, List.setIfInBounds_toArray, List.set_cons_zero, List.set_cons_succ])))
      refine head_nil ?_
      intro w10 hb _
      replace HB := hid (Grow.trans HB.out hb)
      replace HX := hid (HX.out.grow hb)
      replace X := hid (grow_block X.out hb)
      replace P := hid (grow_block P.out hb)
      replace W := hid (grow_block W.out hb)
      replace RP := hid (RP.out.grow hb)
      clear hb
      refine wpList_nil ?_
      go_wp2_with fail
      go_ret
      exact ⟨rfl, HB.out⟩
theorem witnessOwn (a0 : Int) (h0 : (Lit.int .u8 a0).wf = true) (seed : ByteArray) (hsz : seed.size ≤ 140737488351232) (A : Option Addr) (n c : Nat) (fs : List WRow) (a3 : Int) (h3 : (Lit.int .u8 a3).wf = true) (sum : IdK) (hs : sum.length = 32) (w : World) (hx : WrRow w A fs) (hn : fs.length = n) (h32 : ∀ x ∈ fs, x.2.length = 32) :
    Calls Tryz.prog 4 #[.int .u8 a0, .string seed, .slice A n c, .int .u8 a3, idV sum] w fun e w' => e = .returned (.bool true) ∧ Below w.heap.size w w' := by
  obtain ⟨k, rfl, hk⟩ : ∃ k : Nat, a0 = (k : Int) ∧ k < 256 := by
    simp [Lit.wf, IntKind.min, IntKind.max, IntKind.signed, IntKind.bits] at h0
    exact ⟨a0.toNat, by omega, by omega⟩
  obtain ⟨l, rfl, hl⟩ : ∃ k : Nat, a3 = (k : Int) ∧ k < 256 := by
    simp [Lit.wf, IntKind.min, IntKind.max, IntKind.signed, IntKind.bits] at h3
    exact ⟨a3.toNat, by omega, by omega⟩
  by_cases hlg : 60 < seed.size ∨ 20 < n
  · exact witnessOwn_long k hk seed hsz A n c (by have := hx.1; omega) l sum hs w hlg
  · exact witnessOwn_good w k hk seed (by omega) A n c (by omega) fs hx hn h32 l hl sum hs
end Go.Proofs.YtabkaflccaklhaaGreat
