/- The law WitnessParams: walk. -/
import Derived.Test.YtabkaflccaklhaaQWitA
set_option linter.unusedSimpArgs false
set_option linter.unusedVariables false
namespace Go.Proofs.Ytabkaflccaklhaa
open Go.RowKit
open Go.Qk hiding rotr b4
set_option maxHeartbeats 2000000
set_option maxRecDepth 100000
theorem witZ_eql (w : World) : (Go.binOp .eql 95 (.agg witZ.toArray) (.agg witZ.toArray)).run Try.prog w = .ok (.bool true) w := by kernel_rfl
theorem wit_guard (op : BinOp) (F G : List Value) (x y : Operand) (w : World) : (Go.eqGuard op 95 x y (.agg F.toArray) (.agg G.toArray)).run Try.prog w = .ok () w :=
  run_eqGuard_agg w op 95 x y _ _ (by kernel_rfl)
theorem witnessParams (b h : Int) (seed : ByteArray) (hsz : seed.size ≤ 140737488351232) (sum : IdK) (hs : sum.length = 32) (leaf : Int) (A B C : Option Addr) (n m k c d e : Nat) (hn9 : n ≤ 9223372036854775807) (w : World) :
    Calls Try.prog 10 #[.agg #[.int .i64 b, .int .i64 h], .string seed, idV sum, .agg #[.int .i64 leaf, .slice A n c, .slice B m d, .slice C k e]] w fun r w' => r = .returned (.bool true) ∧ Below w.heap.size w w' := by
  have HR7 := hid (fun w => refRight7 b h w)
  have HS := hid hs
  cases hk : ktB b h with
  | true =>
    rw [hk] at HR7
    clear hk
    go_enter Try.func10, Try.ntmps10
    have HB := hid (grow_refl w)
    apply wp_seq_k; intro _ _; apply wp_region_lit
    refine op_boxC (cs := #[.int .i64 b, .int .i64 h]) rfl rfl rfl rfl ?_
    intro gp w1 hgl hgu hb hr
    have PL := hid (Nat.le_trans HB.out.size hgl)
    replace HB := hid (Grow.trans HB.out hb)
    have P := hid hr; have PU := hid hgu
    clear hr hgl hgu hb
    try simp only [Act.put, List.setIfInBounds_toArray, List.set_cons_zero, List.set_cons_succ]
    refine op_box (l := sum) rfl rfl rfl ?_
    intro gs w2 hgl hgu hb hr
    have XL := hid (Nat.le_trans HB.out.size hgl)
    replace HB := hid (Grow.trans HB.out hb)
    replace P := hid (grow_block P.out hb)
    have X := hid hr; have XU := hid hgu
    clear hr hgl hgu hb
    try simp only [Act.put, List.setIfInBounds_toArray, List.set_cons_zero, List.set_cons_succ]
    refine op_boxC (cs := #[.int .i64 leaf, .slice A n c, .slice B m d, .slice C k e]) rfl rfl rfl rfl ?_
    intro gx w3 hgl hgu hb hr
    have GL := hid (Nat.le_trans HB.out.size hgl)
    replace HB := hid (Grow.trans HB.out hb)
    replace P := hid (grow_block P.out hb)
    replace X := hid (grow_block X.out hb)
    have G := hid hr; have GU := hid hgu
    clear hr hgl hgu hb
    try simp only [Act.put, List.setIfInBounds_toArray, List.set_cons_zero, List.set_cons_succ]
    go_wp2_with (first | (refine opG_loadB rfl rfl rfl P.out Try.underlying92 rfl rfl ?_) | (refine opG_load1 rfl rfl rfl P.out rfl Try.underlying3 rfl ?_) | (refine opG_loadB rfl rfl rfl G.out Try.underlying49 rfl rfl ?_) | (refine opG_load1 rfl rfl rfl G.out rfl Try.underlying3 rfl ?_) | (refine opG_load1 rfl rfl rfl G.out rfl Try.underlying47 rfl ?_) |  fail)
    refine (HR7.out _).mono ?_
    rintro e w4 ⟨rfl, hb⟩
    replace HB := hid (Grow.trans HB.out hb)
    replace P := hid (grow_block P.out hb)
    replace X := hid (grow_block X.out hb)
    replace G := hid (grow_block G.out hb)
    clear hb
    go_wp2_with (first | (refine opG_loadB rfl rfl rfl P.out Try.underlying92 rfl rfl ?_) | (refine opG_load1 rfl rfl rfl P.out rfl Try.underlying3 rfl ?_) | (refine opG_loadB rfl rfl rfl G.out Try.underlying49 rfl rfl ?_) | (refine opG_load1 rfl rfl rfl G.out rfl Try.underlying3 rfl ?_) | (refine opG_load1 rfl rfl rfl G.out rfl Try.underlying47 rfl ?_) |  fail)
    refine (awake09 _).mono ?_
    rintro e w5 ⟨rfl, hb⟩
    replace HB := hid (Grow.trans HB.out hb)
    replace P := hid (grow_block P.out hb)
    replace X := hid (grow_block X.out hb)
    replace G := hid (grow_block G.out hb)
    clear hb
    go_wp2
    go_ret
    exact ⟨rfl, HB.out⟩
  | false =>
    rw [hk] at HR7
    by_cases h1 : 60 < seed.size
    · have t1 : decide ((60 : Int) < (seed.size : Int)) = true := by simp; omega
      clear hk h1
      go_enter Try.func10, Try.ntmps10
      have HB := hid (grow_refl w)
      apply wp_seq_k; intro _ _; apply wp_region_lit
      refine op_boxC (cs := #[.int .i64 b, .int .i64 h]) rfl rfl rfl rfl ?_
      intro gp w6 hgl hgu hb hr
      have PL := hid (Nat.le_trans HB.out.size hgl)
      replace HB := hid (Grow.trans HB.out hb)
      have P := hid hr; have PU := hid hgu
      clear hr hgl hgu hb
      try simp only [Act.put, List.setIfInBounds_toArray, List.set_cons_zero, List.set_cons_succ]
      refine op_box (l := sum) rfl rfl rfl ?_
      intro gs w7 hgl hgu hb hr
      have XL := hid (Nat.le_trans HB.out.size hgl)
      replace HB := hid (Grow.trans HB.out hb)
      replace P := hid (grow_block P.out hb)
      have X := hid hr; have XU := hid hgu
      clear hr hgl hgu hb
      try simp only [Act.put, List.setIfInBounds_toArray, List.set_cons_zero, List.set_cons_succ]
      refine op_boxC (cs := #[.int .i64 leaf, .slice A n c, .slice B m d, .slice C k e]) rfl rfl rfl rfl ?_
      intro gx w8 hgl hgu hb hr
      have GL := hid (Nat.le_trans HB.out.size hgl)
      replace HB := hid (Grow.trans HB.out hb)
      replace P := hid (grow_block P.out hb)
      replace X := hid (grow_block X.out hb)
      have G := hid hr; have GU := hid hgu
      clear hr hgl hgu hb
      try simp only [Act.put, List.setIfInBounds_toArray, List.set_cons_zero, List.set_cons_succ]
      go_wp2_with (first | (refine opG_loadB rfl rfl rfl P.out Try.underlying92 rfl rfl ?_) | (refine opG_load1 rfl rfl rfl P.out rfl Try.underlying3 rfl ?_) | (refine opG_loadB rfl rfl rfl G.out Try.underlying49 rfl rfl ?_) | (refine opG_load1 rfl rfl rfl G.out rfl Try.underlying3 rfl ?_) | (refine opG_load1 rfl rfl rfl G.out rfl Try.underlying47 rfl ?_) | (refine opG_loadB rfl rfl rfl P.out Try.underlying92 rfl rfl ?_) | (refine opG_load1 rfl rfl rfl P.out rfl Try.underlying3 rfl ?_) | (refine opG_loadB rfl rfl rfl G.out Try.underlying49 rfl rfl ?_) | (refine opG_load1 rfl rfl rfl G.out rfl Try.underlying3 rfl ?_) | (refine opG_load1 rfl rfl rfl G.out rfl Try.underlying47 rfl ?_) |  fail)
      refine (HR7.out _).mono ?_
      rintro e w9 ⟨rfl, hb⟩
      replace HB := hid (Grow.trans HB.out hb)
      replace P := hid (grow_block P.out hb)
      replace X := hid (grow_block X.out hb)
      replace G := hid (grow_block G.out hb)
      clear hb
      go_wp2_with (first | (refine opG_loadB rfl rfl rfl P.out Try.underlying92 rfl rfl ?_) | (refine opG_load1 rfl rfl rfl P.out rfl Try.underlying3 rfl ?_) | (refine opG_loadB rfl rfl rfl G.out Try.underlying49 rfl rfl ?_) | (refine opG_load1 rfl rfl rfl G.out rfl Try.underlying3 rfl ?_) | (refine opG_load1 rfl rfl rfl G.out rfl Try.underlying47 rfl ?_) | (refine opG_loadB rfl rfl rfl P.out Try.underlying92 rfl rfl ?_) | (refine opG_load1 rfl rfl rfl P.out rfl Try.underlying3 rfl ?_) | (refine opG_loadB rfl rfl rfl G.out Try.underlying49 rfl rfl ?_) | (refine opG_load1 rfl rfl rfl G.out rfl Try.underlying3 rfl ?_) | (refine opG_load1 rfl rfl rfl G.out rfl Try.underlying47 rfl ?_) |  fail)
      refine (awake09 _).mono ?_
      rintro e w10 ⟨rfl, hb⟩
      replace HB := hid (Grow.trans HB.out hb)
      replace P := hid (grow_block P.out hb)
      replace X := hid (grow_block X.out hb)
      replace G := hid (grow_block G.out hb)
      clear hb
      go_wp2
      go_ret
      exact ⟨rfl, HB.out⟩
    · have t1 : decide ((60 : Int) < (seed.size : Int)) = false := by simp; omega
      by_cases h2 : 20 < n
      · have t2 : decide ((20 : Int) < (n : Int)) = true := by simp; omega
        clear hk h1 h2
        go_enter Try.func10, Try.ntmps10
        have HB := hid (grow_refl w)
        apply wp_seq_k; intro _ _; apply wp_region_lit
        refine op_boxC (cs := #[.int .i64 b, .int .i64 h]) rfl rfl rfl rfl ?_
        intro gp w11 hgl hgu hb hr
        have PL := hid (Nat.le_trans HB.out.size hgl)
        replace HB := hid (Grow.trans HB.out hb)
        have P := hid hr; have PU := hid hgu
        clear hr hgl hgu hb
        try simp only [Act.put, List.setIfInBounds_toArray, List.set_cons_zero, List.set_cons_succ]
        refine op_box (l := sum) rfl rfl rfl ?_
        intro gs w12 hgl hgu hb hr
        have XL := hid (Nat.le_trans HB.out.size hgl)
        replace HB := hid (Grow.trans HB.out hb)
        replace P := hid (grow_block P.out hb)
        have X := hid hr; have XU := hid hgu
        clear hr hgl hgu hb
        try simp only [Act.put, List.setIfInBounds_toArray, List.set_cons_zero, List.set_cons_succ]
        refine op_boxC (cs := #[.int .i64 leaf, .slice A n c, .slice B m d, .slice C k e]) rfl rfl rfl rfl ?_
        intro gx w13 hgl hgu hb hr
        have GL := hid (Nat.le_trans HB.out.size hgl)
        replace HB := hid (Grow.trans HB.out hb)
        replace P := hid (grow_block P.out hb)
        replace X := hid (grow_block X.out hb)
        have G := hid hr; have GU := hid hgu
        clear hr hgl hgu hb
        try simp only [Act.put, List.setIfInBounds_toArray, List.set_cons_zero, List.set_cons_succ]
        go_wp2_with (first | (refine opG_loadB rfl rfl rfl P.out Try.underlying92 rfl rfl ?_) | (refine opG_load1 rfl rfl rfl P.out rfl Try.underlying3 rfl ?_) | (refine opG_loadB rfl rfl rfl G.out Try.underlying49 rfl rfl ?_) | (refine opG_load1 rfl rfl rfl G.out rfl Try.underlying3 rfl ?_) | (refine opG_load1 rfl rfl rfl G.out rfl Try.underlying47 rfl ?_) | (refine opG_loadB rfl rfl rfl P.out Try.underlying92 rfl rfl ?_) | (refine opG_load1 rfl rfl rfl P.out rfl Try.underlying3 rfl ?_) | (refine opG_loadB rfl rfl rfl G.out Try.underlying49 rfl rfl ?_) | (refine opG_load1 rfl rfl rfl G.out rfl Try.underlying3 rfl ?_) | (refine opG_load1 rfl rfl rfl G.out rfl Try.underlying47 rfl ?_) | (refine opG_loadB rfl rfl rfl P.out Try.underlying92 rfl rfl ?_) | (refine opG_load1 rfl rfl rfl P.out rfl Try.underlying3 rfl ?_) | (refine opG_loadB rfl rfl rfl G.out Try.underlying49 rfl rfl ?_) | (refine opG_load1 rfl rfl rfl G.out rfl Try.underlying3 rfl ?_) | (refine opG_load1 rfl rfl rfl G.out rfl Try.underlying47 rfl ?_) |  fail)
        refine (HR7.out _).mono ?_
        rintro e w14 ⟨rfl, hb⟩
        replace HB := hid (Grow.trans HB.out hb)
        replace P := hid (grow_block P.out hb)
        replace X := hid (grow_block X.out hb)
        replace G := hid (grow_block G.out hb)
        clear hb
        go_wp2_with (first | (refine opG_loadB rfl rfl rfl P.out Try.underlying92 rfl rfl ?_) | (refine opG_load1 rfl rfl rfl P.out rfl Try.underlying3 rfl ?_) | (refine opG_loadB rfl rfl rfl G.out Try.underlying49 rfl rfl ?_) | (refine opG_load1 rfl rfl rfl G.out rfl Try.underlying3 rfl ?_) | (refine opG_load1 rfl rfl rfl G.out rfl Try.underlying47 rfl ?_) | (refine opG_loadB rfl rfl rfl P.out Try.underlying92 rfl rfl ?_) | (refine opG_load1 rfl rfl rfl P.out rfl Try.underlying3 rfl ?_) | (refine opG_loadB rfl rfl rfl G.out Try.underlying49 rfl rfl ?_) | (refine opG_load1 rfl rfl rfl G.out rfl Try.underlying3 rfl ?_) | (refine opG_load1 rfl rfl rfl G.out rfl Try.underlying47 rfl ?_) | (refine opG_loadB rfl rfl rfl P.out Try.underlying92 rfl rfl ?_) | (refine opG_load1 rfl rfl rfl P.out rfl Try.underlying3 rfl ?_) | (refine opG_loadB rfl rfl rfl G.out Try.underlying49 rfl rfl ?_) | (refine opG_load1 rfl rfl rfl G.out rfl Try.underlying3 rfl ?_) | (refine opG_load1 rfl rfl rfl G.out rfl Try.underlying47 rfl ?_) |  fail)
        refine (awake09 _).mono ?_
        rintro e w15 ⟨rfl, hb⟩
        replace HB := hid (Grow.trans HB.out hb)
        replace P := hid (grow_block P.out hb)
        replace X := hid (grow_block X.out hb)
        replace G := hid (grow_block G.out hb)
        clear hb
        go_wp2
        go_ret
        exact ⟨rfl, HB.out⟩
      · have t2 : decide ((20 : Int) < (n : Int)) = false := by simp; omega
        have HFB := hid (fun w => wFind_bad seed b h hk (.slice none 0 0) sum hs leaf A B C n m k c d e w)
        have hq1 := witZ_eql
        have hq2 := wit_guard .eql witZ witZ
        have HBD := hid run_buildWit0
        clear hk h1 h2
        go_enter Try.func10, Try.ntmps10
        have HB := hid (grow_refl w)
        apply wp_seq_k; intro _ _; apply wp_region_lit
        refine op_boxC (cs := #[.int .i64 b, .int .i64 h]) rfl rfl rfl rfl ?_
        intro gp w16 hgl hgu hb hr
        have PL := hid (Nat.le_trans HB.out.size hgl)
        replace HB := hid (Grow.trans HB.out hb)
        have P := hid hr; have PU := hid hgu
        clear hr hgl hgu hb
        try simp only [Act.put, List.setIfInBounds_toArray, List.set_cons_zero, List.set_cons_succ]
        refine op_box (l := sum) rfl rfl rfl ?_
        intro gs w17 hgl hgu hb hr
        have XL := hid (Nat.le_trans HB.out.size hgl)
        replace HB := hid (Grow.trans HB.out hb)
        replace P := hid (grow_block P.out hb)
        have X := hid hr; have XU := hid hgu
        clear hr hgl hgu hb
        try simp only [Act.put, List.setIfInBounds_toArray, List.set_cons_zero, List.set_cons_succ]
        refine op_boxC (cs := #[.int .i64 leaf, .slice A n c, .slice B m d, .slice C k e]) rfl rfl rfl rfl ?_
        intro gx w18 hgl hgu hb hr
        have GL := hid (Nat.le_trans HB.out.size hgl)
        replace HB := hid (Grow.trans HB.out hb)
        replace P := hid (grow_block P.out hb)
        replace X := hid (grow_block X.out hb)
        have G := hid hr; have GU := hid hgu
        clear hr hgl hgu hb
        try simp only [Act.put, List.setIfInBounds_toArray, List.set_cons_zero, List.set_cons_succ]
        go_wp2_with (first | (refine opG_loadB rfl rfl rfl P.out Try.underlying92 rfl rfl ?_) | (refine opG_load1 rfl rfl rfl P.out rfl Try.underlying3 rfl ?_) | (refine opG_loadB rfl rfl rfl G.out Try.underlying49 rfl rfl ?_) | (refine opG_load1 rfl rfl rfl G.out rfl Try.underlying3 rfl ?_) | (refine opG_load1 rfl rfl rfl G.out rfl Try.underlying47 rfl ?_) | (refine opG_loadB rfl rfl rfl P.out Try.underlying92 rfl rfl ?_) | (refine opG_load1 rfl rfl rfl P.out rfl Try.underlying3 rfl ?_) | (refine opG_loadB rfl rfl rfl G.out Try.underlying49 rfl rfl ?_) | (refine opG_load1 rfl rfl rfl G.out rfl Try.underlying3 rfl ?_) | (refine opG_load1 rfl rfl rfl G.out rfl Try.underlying47 rfl ?_) | (refine opG_loadB rfl rfl rfl P.out Try.underlying92 rfl rfl ?_) | (refine opG_load1 rfl rfl rfl P.out rfl Try.underlying3 rfl ?_) | (refine opG_loadB rfl rfl rfl G.out Try.underlying49 rfl rfl ?_) | (refine opG_load1 rfl rfl rfl G.out rfl Try.underlying3 rfl ?_) | (refine opG_load1 rfl rfl rfl G.out rfl Try.underlying47 rfl ?_) | (refine opG_loadB rfl rfl rfl P.out Try.underlying92 rfl rfl ?_) | (refine opG_load1 rfl rfl rfl P.out rfl Try.underlying3 rfl ?_) | (refine opG_loadB rfl rfl rfl G.out Try.underlying49 rfl rfl ?_) | (refine opG_load1 rfl rfl rfl G.out rfl Try.underlying3 rfl ?_) | (refine opG_load1 rfl rfl rfl G.out rfl Try.underlying47 rfl ?_) | (refine op_loadId rfl rfl rfl X.out (HS.out) ?_) |  fail)
        refine (HR7.out _).mono ?_
        rintro e w19 ⟨rfl, hb⟩
        replace HB := hid (Grow.trans HB.out hb)
        replace P := hid (grow_block P.out hb)
        replace X := hid (grow_block X.out hb)
        replace G := hid (grow_block G.out hb)
        clear hb
        go_wp2_with (first | (refine opG_loadB rfl rfl rfl P.out Try.underlying92 rfl rfl ?_) | (refine opG_load1 rfl rfl rfl P.out rfl Try.underlying3 rfl ?_) | (refine opG_loadB rfl rfl rfl G.out Try.underlying49 rfl rfl ?_) | (refine opG_load1 rfl rfl rfl G.out rfl Try.underlying3 rfl ?_) | (refine opG_load1 rfl rfl rfl G.out rfl Try.underlying47 rfl ?_) | (refine opG_loadB rfl rfl rfl P.out Try.underlying92 rfl rfl ?_) | (refine opG_load1 rfl rfl rfl P.out rfl Try.underlying3 rfl ?_) | (refine opG_loadB rfl rfl rfl G.out Try.underlying49 rfl rfl ?_) | (refine opG_load1 rfl rfl rfl G.out rfl Try.underlying3 rfl ?_) | (refine opG_load1 rfl rfl rfl G.out rfl Try.underlying47 rfl ?_) | (refine opG_loadB rfl rfl rfl P.out Try.underlying92 rfl rfl ?_) | (refine opG_load1 rfl rfl rfl P.out rfl Try.underlying3 rfl ?_) | (refine opG_loadB rfl rfl rfl G.out Try.underlying49 rfl rfl ?_) | (refine opG_load1 rfl rfl rfl G.out rfl Try.underlying3 rfl ?_) | (refine opG_load1 rfl rfl rfl G.out rfl Try.underlying47 rfl ?_) | (refine opG_loadB rfl rfl rfl P.out Try.underlying92 rfl rfl ?_) | (refine opG_load1 rfl rfl rfl P.out rfl Try.underlying3 rfl ?_) | (refine opG_loadB rfl rfl rfl G.out Try.underlying49 rfl rfl ?_) | (refine opG_load1 rfl rfl rfl G.out rfl Try.underlying3 rfl ?_) | (refine opG_load1 rfl rfl rfl G.out rfl Try.underlying47 rfl ?_) | (refine op_loadId rfl rfl rfl X.out (HS.out) ?_) |  fail)
        refine (HFB.out _).mono ?_
        rintro e w20 ⟨rfl, hb⟩
        replace HB := hid (Grow.trans HB.out hb)
        replace P := hid (grow_block P.out hb)
        replace X := hid (grow_block X.out hb)
        replace G := hid (grow_block G.out hb)
        clear hb
        go_wp2_with (first | (refine op_allocstoreB (z := witZ) (cs := witZ) rfl rfl rfl rfl rfl rfl (fun _ => by kernel_rfl) (fun _ => rfl) (fun _ => rfl) rfl (by rw [infoWit]; rfl) (witC_one _ _ _ _ _ _ _) ?_) | fail)
        intro gf wf hgl hgu hb hr
        replace HB := hid (Grow.trans HB.out hb)
        replace P := hid (grow_block P.out hb)
        replace X := hid (grow_block X.out hb)
        replace G := hid (grow_block G.out hb)
        clear hb
        have F := hid hr
        clear hgl hgu hr
        go_wp2_with (first | (refine opG_loadB rfl rfl rfl F.out Try.underlying95 rfl rfl ?_) | (refine opG_build (ps := #[]) rfl rfl (by simp) HBD.out ?_) | fail)
        refine (awake09 _).mono ?_
        rintro e w21 ⟨rfl, hb⟩
        replace HB := hid (Grow.trans HB.out hb)
        replace P := hid (grow_block P.out hb)
        replace X := hid (grow_block X.out hb)
        replace G := hid (grow_block G.out hb)
        replace F := hid (grow_block F.out hb)
        clear hb
        go_wp2_with fail
        go_ret
        exact ⟨rfl, HB.out⟩
end Go.Proofs.Ytabkaflccaklhaa
