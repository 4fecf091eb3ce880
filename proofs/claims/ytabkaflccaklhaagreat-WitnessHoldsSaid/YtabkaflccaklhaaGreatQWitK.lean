/- The law WitnessHolds: walk (printed by gen_holds.py). -/
import Derived.Test.YtabkaflccaklhaaGreatQWitF
import Derived.Test.YtabkaflccaklhaaGreatQWitM
set_option linter.unusedSimpArgs false
set_option linter.unusedVariables false
namespace Go.Proofs.YtabkaflccaklhaaGreat
open Go.RowKit
open Go.Qk hiding rotr b4
set_option maxHeartbeats 4000000
set_option maxRecDepth 100000
theorem witnessHolds_long0 (k : Nat) (hk : k < 256) (seed : ByteArray) (hsz : seed.size ≤ 140737488351232) (A : Option Addr) (n c : Nat) (hn9 : n ≤ 9223372036854775807) (sum : IdK) (hs : sum.length = 32) (leaf : Int) (S1 S2 S3 : Option Addr) (n1 n2 n3 c1 c2 c3 : Nat) (kk : Int) (sa sc : List UInt8) (lf bt sd : Int) (v : IdK) (hv : v.length = 32) (bits : Int) (m1 : n1 ≤ 9223372036854775807) (w : World) (h0 : 60 < seed.size) :
    Calls Tryz.prog 6 #[.int .u8 (k : Int), .string seed, .slice A n c, idV sum, .agg #[.int .i64 leaf, .slice S1 n1 c1, .slice S2 n2 c2, .slice S3 n3 c3], .agg (witC kk sa sc lf bt sd v).toArray, .int .i64 bits] w fun e w' => e = .returned (.bool true) ∧ Below w.heap.size w w' := by
  have k0 : (0 : Int) ≤ (k : Int) := by omega
  have k1 : (k : Int) ≤ 255 := by omega
  obtain ⟨r, hr0⟩ : ∃ r, r = k % 3 := ⟨_, rfl⟩
  have hr2 : (k : Int) % 3 = (r : Int) := by omega
  have hr3 : r ≤ 2 := by omega
  have hw : IntKind.i64.wrap (k : Int) = (k : Int) := IntWalk.i64_in _ (by omega)
  have HS := hid hs
  have HV := hid hv
  have t0 : decide ((60 : Int) < ((seed.size : Nat) : Int)) = true := by simp; omega
  clear hk hr0 hr3 hs hv h0
  go_enter Tryz.func6, Tryz.ntmps6
  have HB := hid (grow_refl w)
  apply wp_seq_k; intro _ _; apply wp_region_lit
  refine op_box (l := sum) rfl rfl rfl ?_
  intro gs w1 hgl hgu hb hr
  have XL := hid (Nat.le_trans HB.out.size hgl)
  replace HB := hid (Grow.trans HB.out hb)
  have X := hid hr; have XU := hid hgu
  clear hr hgl hgu hb
  try simp only [Act.put, List.setIfInBounds_toArray, List.set_cons_zero, List.set_cons_succ]
  refine op_boxC (cs := #[.int .i64 leaf, .slice S1 n1 c1, .slice S2 n2 c2, .slice S3 n3 c3]) rfl rfl rfl rfl ?_
  intro gx w2 hgl hgu hb hr
  have GL := hid (Nat.le_trans HB.out.size hgl)
  replace HB := hid (Grow.trans HB.out hb)
  replace X := hid (grow_block X.out hb)
  have G := hid hr; have GU := hid hgu
  clear hr hgl hgu hb
  try simp only [Act.put, List.setIfInBounds_toArray, List.set_cons_zero, List.set_cons_succ]
  refine op_boxC (cs := (witC kk sa sc lf bt sd v).toArray) rfl rfl rfl rfl ?_
  intro gw w3 hgl hgu hb hr
  have WL := hid (Nat.le_trans HB.out.size hgl)
  replace HB := hid (Grow.trans HB.out hb)
  replace X := hid (grow_block X.out hb)
  replace G := hid (grow_block G.out hb)
  have W := hid hr; have WU := hid hgu
  clear hr hgl hgu hb
  try simp only [Act.put, List.setIfInBounds_toArray, List.set_cons_zero, List.set_cons_succ]
  go_wp2_with (first | (refine op_allocstoreB (z := [.int .i64 0, .int .i64 0]) (cs := [.int .i64 8, .int .i64 (r : Int)]) rfl rfl rfl rfl rfl rfl (fun _ => by kernel_rfl) (fun _ => rfl) (fun _ => rfl) rfl (by kernel_rfl) (by intro v hv; simp at hv; rcases hv with rfl | rfl <;> rfl) ?_) | fail)
  intro gp wp hgl hgu hb hr
  replace HB := hid (Grow.trans HB.out hb)
  replace X := hid (grow_block X.out hb)
  replace G := hid (grow_block G.out hb)
  replace W := hid (grow_block W.out hb)
  clear hb
  have P := hid (show wp.heap[gp]? = some (.cells #[.int .i64 8, .int .i64 (r : Int)] 54 (0, 0)) from hr)
  clear hgl hgu hr
  go_wp2_with (first | (refine opG_load1 (i := 1) (v := .string (bs sa)) rfl rfl rfl W.out rfl Tryz.underlying9 rfl ?_) | (refine opG_load1 (i := 2) (v := .string (bs sc)) rfl rfl rfl W.out rfl Tryz.underlying9 rfl ?_) | (refine opG_loadB rfl rfl rfl P.out Tryz.underlying54 rfl rfl ?_) | (refine opG_load1 rfl rfl rfl P.out rfl Tryz.underlying3 rfl ?_) | (refine opG_loadB rfl rfl rfl G.out Tryz.underlying58 rfl rfl ?_) | (refine opG_load1 rfl rfl rfl G.out rfl Tryz.underlying3 rfl ?_) | (refine opG_load1 rfl rfl rfl G.out rfl Tryz.underlying56 rfl ?_) | (refine op_loadId rfl rfl rfl X.out (HS.out) ?_) |  fail)
  refine (awake09 _).mono ?_
  rintro e w4 ⟨rfl, hb⟩
  replace HB := hid (Grow.trans HB.out hb)
  replace X := hid (grow_block X.out hb)
  replace G := hid (grow_block G.out hb)
  replace W := hid (grow_block W.out hb)
  replace P := hid (grow_block P.out hb)
  clear hb
  go_wp2_with fail
  go_ret
  exact ⟨rfl, HB.out⟩
theorem witnessHolds_long1 (k : Nat) (hk : k < 256) (seed : ByteArray) (hsz : seed.size ≤ 140737488351232) (A : Option Addr) (n c : Nat) (hn9 : n ≤ 9223372036854775807) (sum : IdK) (hs : sum.length = 32) (leaf : Int) (S1 S2 S3 : Option Addr) (n1 n2 n3 c1 c2 c3 : Nat) (kk : Int) (sa sc : List UInt8) (lf bt sd : Int) (v : IdK) (hv : v.length = 32) (bits : Int) (m1 : n1 ≤ 9223372036854775807) (w : World) (h0 : ¬ 60 < seed.size) (h1 : 20 < n) :
    Calls Tryz.prog 6 #[.int .u8 (k : Int), .string seed, .slice A n c, idV sum, .agg #[.int .i64 leaf, .slice S1 n1 c1, .slice S2 n2 c2, .slice S3 n3 c3], .agg (witC kk sa sc lf bt sd v).toArray, .int .i64 bits] w fun e w' => e = .returned (.bool true) ∧ Below w.heap.size w w' := by
  have k0 : (0 : Int) ≤ (k : Int) := by omega
  have k1 : (k : Int) ≤ 255 := by omega
  obtain ⟨r, hr0⟩ : ∃ r, r = k % 3 := ⟨_, rfl⟩
  have hr2 : (k : Int) % 3 = (r : Int) := by omega
  have hr3 : r ≤ 2 := by omega
  have hw : IntKind.i64.wrap (k : Int) = (k : Int) := IntWalk.i64_in _ (by omega)
  have HS := hid hs
  have HV := hid hv
  have t0 : decide ((60 : Int) < ((seed.size : Nat) : Int)) = false := by simp; omega
  have t1 : decide ((20 : Int) < ((n : Nat) : Int)) = true := by simp; omega
  clear hk hr0 hr3 hs hv h0 h1
  go_enter Tryz.func6, Tryz.ntmps6
  have HB := hid (grow_refl w)
  apply wp_seq_k; intro _ _; apply wp_region_lit
  refine op_box (l := sum) rfl rfl rfl ?_
  intro gs w1 hgl hgu hb hr
  have XL := hid (Nat.le_trans HB.out.size hgl)
  replace HB := hid (Grow.trans HB.out hb)
  have X := hid hr; have XU := hid hgu
  clear hr hgl hgu hb
  try simp only [Act.put, List.setIfInBounds_toArray, List.set_cons_zero, List.set_cons_succ]
  refine op_boxC (cs := #[.int .i64 leaf, .slice S1 n1 c1, .slice S2 n2 c2, .slice S3 n3 c3]) rfl rfl rfl rfl ?_
  intro gx w2 hgl hgu hb hr
  have GL := hid (Nat.le_trans HB.out.size hgl)
  replace HB := hid (Grow.trans HB.out hb)
  replace X := hid (grow_block X.out hb)
  have G := hid hr; have GU := hid hgu
  clear hr hgl hgu hb
  try simp only [Act.put, List.setIfInBounds_toArray, List.set_cons_zero, List.set_cons_succ]
  refine op_boxC (cs := (witC kk sa sc lf bt sd v).toArray) rfl rfl rfl rfl ?_
  intro gw w3 hgl hgu hb hr
  have WL := hid (Nat.le_trans HB.out.size hgl)
  replace HB := hid (Grow.trans HB.out hb)
  replace X := hid (grow_block X.out hb)
  replace G := hid (grow_block G.out hb)
  have W := hid hr; have WU := hid hgu
  clear hr hgl hgu hb
  try simp only [Act.put, List.setIfInBounds_toArray, List.set_cons_zero, List.set_cons_succ]
  go_wp2_with (first | (refine op_allocstoreB (z := [.int .i64 0, .int .i64 0]) (cs := [.int .i64 8, .int .i64 (r : Int)]) rfl rfl rfl rfl rfl rfl (fun _ => by kernel_rfl) (fun _ => rfl) (fun _ => rfl) rfl (by kernel_rfl) (by intro v hv; simp at hv; rcases hv with rfl | rfl <;> rfl) ?_) | fail)
  intro gp wp hgl hgu hb hr
  replace HB := hid (Grow.trans HB.out hb)
  replace X := hid (grow_block X.out hb)
  replace G := hid (grow_block G.out hb)
  replace W := hid (grow_block W.out hb)
  clear hb
  have P := hid (show wp.heap[gp]? = some (.cells #[.int .i64 8, .int .i64 (r : Int)] 54 (0, 0)) from hr)
  clear hgl hgu hr
  go_wp2_with (first | (refine opG_load1 (i := 1) (v := .string (bs sa)) rfl rfl rfl W.out rfl Tryz.underlying9 rfl ?_) | (refine opG_load1 (i := 2) (v := .string (bs sc)) rfl rfl rfl W.out rfl Tryz.underlying9 rfl ?_) | (refine opG_loadB rfl rfl rfl P.out Tryz.underlying54 rfl rfl ?_) | (refine opG_load1 rfl rfl rfl P.out rfl Tryz.underlying3 rfl ?_) | (refine opG_loadB rfl rfl rfl G.out Tryz.underlying58 rfl rfl ?_) | (refine opG_load1 rfl rfl rfl G.out rfl Tryz.underlying3 rfl ?_) | (refine opG_load1 rfl rfl rfl G.out rfl Tryz.underlying56 rfl ?_) | (refine op_loadId rfl rfl rfl X.out (HS.out) ?_) |  fail)
  refine (awake09 _).mono ?_
  rintro e w4 ⟨rfl, hb⟩
  replace HB := hid (Grow.trans HB.out hb)
  replace X := hid (grow_block X.out hb)
  replace G := hid (grow_block G.out hb)
  replace W := hid (grow_block W.out hb)
  replace P := hid (grow_block P.out hb)
  clear hb
  go_wp2_with fail
  go_ret
  exact ⟨rfl, HB.out⟩
theorem witnessHolds_long2 (k : Nat) (hk : k < 256) (seed : ByteArray) (hsz : seed.size ≤ 140737488351232) (A : Option Addr) (n c : Nat) (hn9 : n ≤ 9223372036854775807) (sum : IdK) (hs : sum.length = 32) (leaf : Int) (S1 S2 S3 : Option Addr) (n1 n2 n3 c1 c2 c3 : Nat) (kk : Int) (sa sc : List UInt8) (lf bt sd : Int) (v : IdK) (hv : v.length = 32) (bits : Int) (m1 : n1 ≤ 9223372036854775807) (w : World) (h0 : ¬ 60 < seed.size) (h1 : ¬ 20 < n) (h2 : 10 < n1) :
    Calls Tryz.prog 6 #[.int .u8 (k : Int), .string seed, .slice A n c, idV sum, .agg #[.int .i64 leaf, .slice S1 n1 c1, .slice S2 n2 c2, .slice S3 n3 c3], .agg (witC kk sa sc lf bt sd v).toArray, .int .i64 bits] w fun e w' => e = .returned (.bool true) ∧ Below w.heap.size w w' := by
  have k0 : (0 : Int) ≤ (k : Int) := by omega
  have k1 : (k : Int) ≤ 255 := by omega
  obtain ⟨r, hr0⟩ : ∃ r, r = k % 3 := ⟨_, rfl⟩
  have hr2 : (k : Int) % 3 = (r : Int) := by omega
  have hr3 : r ≤ 2 := by omega
  have hw : IntKind.i64.wrap (k : Int) = (k : Int) := IntWalk.i64_in _ (by omega)
  have HS := hid hs
  have HV := hid hv
  have t0 : decide ((60 : Int) < ((seed.size : Nat) : Int)) = false := by simp; omega
  have t1 : decide ((20 : Int) < ((n : Nat) : Int)) = false := by simp; omega
  have t2 : decide ((10 : Int) < ((n1 : Nat) : Int)) = true := by simp; omega
  clear hk hr0 hr3 hs hv h0 h1 h2
  go_enter Tryz.func6, Tryz.ntmps6
  have HB := hid (grow_refl w)
  apply wp_seq_k; intro _ _; apply wp_region_lit
  refine op_box (l := sum) rfl rfl rfl ?_
  intro gs w1 hgl hgu hb hr
  have XL := hid (Nat.le_trans HB.out.size hgl)
  replace HB := hid (Grow.trans HB.out hb)
  have X := hid hr; have XU := hid hgu
  clear hr hgl hgu hb
  try simp only [Act.put, List.setIfInBounds_toArray, List.set_cons_zero, List.set_cons_succ]
  refine op_boxC (cs := #[.int .i64 leaf, .slice S1 n1 c1, .slice S2 n2 c2, .slice S3 n3 c3]) rfl rfl rfl rfl ?_
  intro gx w2 hgl hgu hb hr
  have GL := hid (Nat.le_trans HB.out.size hgl)
  replace HB := hid (Grow.trans HB.out hb)
  replace X := hid (grow_block X.out hb)
  have G := hid hr; have GU := hid hgu
  clear hr hgl hgu hb
  try simp only [Act.put, List.setIfInBounds_toArray, List.set_cons_zero, List.set_cons_succ]
  refine op_boxC (cs := (witC kk sa sc lf bt sd v).toArray) rfl rfl rfl rfl ?_
  intro gw w3 hgl hgu hb hr
  have WL := hid (Nat.le_trans HB.out.size hgl)
  replace HB := hid (Grow.trans HB.out hb)
  replace X := hid (grow_block X.out hb)
  replace G := hid (grow_block G.out hb)
  have W := hid hr; have WU := hid hgu
  clear hr hgl hgu hb
  try simp only [Act.put, List.setIfInBounds_toArray, List.set_cons_zero, List.set_cons_succ]
  go_wp2_with (first | (refine op_allocstoreB (z := [.int .i64 0, .int .i64 0]) (cs := [.int .i64 8, .int .i64 (r : Int)]) rfl rfl rfl rfl rfl rfl (fun _ => by kernel_rfl) (fun _ => rfl) (fun _ => rfl) rfl (by kernel_rfl) (by intro v hv; simp at hv; rcases hv with rfl | rfl <;> rfl) ?_) | fail)
  intro gp wp hgl hgu hb hr
  replace HB := hid (Grow.trans HB.out hb)
  replace X := hid (grow_block X.out hb)
  replace G := hid (grow_block G.out hb)
  replace W := hid (grow_block W.out hb)
  clear hb
  have P := hid (show wp.heap[gp]? = some (.cells #[.int .i64 8, .int .i64 (r : Int)] 54 (0, 0)) from hr)
  clear hgl hgu hr
  go_wp2_with (first | (refine opG_load1 (i := 1) (v := .string (bs sa)) rfl rfl rfl W.out rfl Tryz.underlying9 rfl ?_) | (refine opG_load1 (i := 2) (v := .string (bs sc)) rfl rfl rfl W.out rfl Tryz.underlying9 rfl ?_) | (refine opG_loadB rfl rfl rfl P.out Tryz.underlying54 rfl rfl ?_) | (refine opG_load1 rfl rfl rfl P.out rfl Tryz.underlying3 rfl ?_) | (refine opG_loadB rfl rfl rfl G.out Tryz.underlying58 rfl rfl ?_) | (refine opG_load1 rfl rfl rfl G.out rfl Tryz.underlying3 rfl ?_) | (refine opG_load1 rfl rfl rfl G.out rfl Tryz.underlying56 rfl ?_) | (refine op_loadId rfl rfl rfl X.out (HS.out) ?_) |  fail)
  refine (awake09 _).mono ?_
  rintro e w4 ⟨rfl, hb⟩
  replace HB := hid (Grow.trans HB.out hb)
  replace X := hid (grow_block X.out hb)
  replace G := hid (grow_block G.out hb)
  replace W := hid (grow_block W.out hb)
  replace P := hid (grow_block P.out hb)
  clear hb
  go_wp2_with fail
  go_ret
  exact ⟨rfl, HB.out⟩
theorem witnessHolds_long3 (k : Nat) (hk : k < 256) (seed : ByteArray) (hsz : seed.size ≤ 140737488351232) (A : Option Addr) (n c : Nat) (hn9 : n ≤ 9223372036854775807) (sum : IdK) (hs : sum.length = 32) (leaf : Int) (S1 S2 S3 : Option Addr) (n1 n2 n3 c1 c2 c3 : Nat) (kk : Int) (sa sc : List UInt8) (lf bt sd : Int) (v : IdK) (hv : v.length = 32) (bits : Int) (m1 : n1 ≤ 9223372036854775807) (w : World) (h0 : ¬ 60 < seed.size) (h1 : ¬ 20 < n) (h2 : ¬ 10 < n1) (h3 : 300 < (bs sa).size) :
    Calls Tryz.prog 6 #[.int .u8 (k : Int), .string seed, .slice A n c, idV sum, .agg #[.int .i64 leaf, .slice S1 n1 c1, .slice S2 n2 c2, .slice S3 n3 c3], .agg (witC kk sa sc lf bt sd v).toArray, .int .i64 bits] w fun e w' => e = .returned (.bool true) ∧ Below w.heap.size w w' := by
  have k0 : (0 : Int) ≤ (k : Int) := by omega
  have k1 : (k : Int) ≤ 255 := by omega
  obtain ⟨r, hr0⟩ : ∃ r, r = k % 3 := ⟨_, rfl⟩
  have hr2 : (k : Int) % 3 = (r : Int) := by omega
  have hr3 : r ≤ 2 := by omega
  have hw : IntKind.i64.wrap (k : Int) = (k : Int) := IntWalk.i64_in _ (by omega)
  have HS := hid hs
  have HV := hid hv
  have t0 : decide ((60 : Int) < ((seed.size : Nat) : Int)) = false := by simp; omega
  have t1 : decide ((20 : Int) < ((n : Nat) : Int)) = false := by simp; omega
  have t2 : decide ((10 : Int) < ((n1 : Nat) : Int)) = false := by simp; omega
  have t3 : decide ((300 : Int) < (((bs sa).size : Nat) : Int)) = true := by simp; omega
  clear hk hr0 hr3 hs hv h0 h1 h2 h3
  go_enter Tryz.func6, Tryz.ntmps6
  have HB := hid (grow_refl w)
  apply wp_seq_k; intro _ _; apply wp_region_lit
  refine op_box (l := sum) rfl rfl rfl ?_
  intro gs w1 hgl hgu hb hr
  have XL := hid (Nat.le_trans HB.out.size hgl)
  replace HB := hid (Grow.trans HB.out hb)
  have X := hid hr; have XU := hid hgu
  clear hr hgl hgu hb
  try simp only [Act.put, List.setIfInBounds_toArray, List.set_cons_zero, List.set_cons_succ]
  refine op_boxC (cs := #[.int .i64 leaf, .slice S1 n1 c1, .slice S2 n2 c2, .slice S3 n3 c3]) rfl rfl rfl rfl ?_
  intro gx w2 hgl hgu hb hr
  have GL := hid (Nat.le_trans HB.out.size hgl)
  replace HB := hid (Grow.trans HB.out hb)
  replace X := hid (grow_block X.out hb)
  have G := hid hr; have GU := hid hgu
  clear hr hgl hgu hb
  try simp only [Act.put, List.setIfInBounds_toArray, List.set_cons_zero, List.set_cons_succ]
  refine op_boxC (cs := (witC kk sa sc lf bt sd v).toArray) rfl rfl rfl rfl ?_
  intro gw w3 hgl hgu hb hr
  have WL := hid (Nat.le_trans HB.out.size hgl)
  replace HB := hid (Grow.trans HB.out hb)
  replace X := hid (grow_block X.out hb)
  replace G := hid (grow_block G.out hb)
  have W := hid hr; have WU := hid hgu
  clear hr hgl hgu hb
  try simp only [Act.put, List.setIfInBounds_toArray, List.set_cons_zero, List.set_cons_succ]
  go_wp2_with (first | (refine op_allocstoreB (z := [.int .i64 0, .int .i64 0]) (cs := [.int .i64 8, .int .i64 (r : Int)]) rfl rfl rfl rfl rfl rfl (fun _ => by kernel_rfl) (fun _ => rfl) (fun _ => rfl) rfl (by kernel_rfl) (by intro v hv; simp at hv; rcases hv with rfl | rfl <;> rfl) ?_) | fail)
  intro gp wp hgl hgu hb hr
  replace HB := hid (Grow.trans HB.out hb)
  replace X := hid (grow_block X.out hb)
  replace G := hid (grow_block G.out hb)
  replace W := hid (grow_block W.out hb)
  clear hb
  have P := hid (show wp.heap[gp]? = some (.cells #[.int .i64 8, .int .i64 (r : Int)] 54 (0, 0)) from hr)
  clear hgl hgu hr
  go_wp2_with (first | (refine opG_load1 (i := 1) (v := .string (bs sa)) rfl rfl rfl W.out rfl Tryz.underlying9 rfl ?_) | (refine opG_load1 (i := 2) (v := .string (bs sc)) rfl rfl rfl W.out rfl Tryz.underlying9 rfl ?_) | (refine opG_loadB rfl rfl rfl P.out Tryz.underlying54 rfl rfl ?_) | (refine opG_load1 rfl rfl rfl P.out rfl Tryz.underlying3 rfl ?_) | (refine opG_loadB rfl rfl rfl G.out Tryz.underlying58 rfl rfl ?_) | (refine opG_load1 rfl rfl rfl G.out rfl Tryz.underlying3 rfl ?_) | (refine opG_load1 rfl rfl rfl G.out rfl Tryz.underlying56 rfl ?_) | (refine op_loadId rfl rfl rfl X.out (HS.out) ?_) |  fail)
  refine (awake09 _).mono ?_
  rintro e w4 ⟨rfl, hb⟩
  replace HB := hid (Grow.trans HB.out hb)
  replace X := hid (grow_block X.out hb)
  replace G := hid (grow_block G.out hb)
  replace W := hid (grow_block W.out hb)
  replace P := hid (grow_block P.out hb)
  clear hb
  go_wp2_with fail
  go_ret
  exact ⟨rfl, HB.out⟩
theorem witnessHolds_long4 (k : Nat) (hk : k < 256) (seed : ByteArray) (hsz : seed.size ≤ 140737488351232) (A : Option Addr) (n c : Nat) (hn9 : n ≤ 9223372036854775807) (sum : IdK) (hs : sum.length = 32) (leaf : Int) (S1 S2 S3 : Option Addr) (n1 n2 n3 c1 c2 c3 : Nat) (kk : Int) (sa sc : List UInt8) (lf bt sd : Int) (v : IdK) (hv : v.length = 32) (bits : Int) (m1 : n1 ≤ 9223372036854775807) (w : World) (h0 : ¬ 60 < seed.size) (h1 : ¬ 20 < n) (h2 : ¬ 10 < n1) (h3 : ¬ 300 < (bs sa).size) (h4 : 300 < (bs sc).size) :
    Calls Tryz.prog 6 #[.int .u8 (k : Int), .string seed, .slice A n c, idV sum, .agg #[.int .i64 leaf, .slice S1 n1 c1, .slice S2 n2 c2, .slice S3 n3 c3], .agg (witC kk sa sc lf bt sd v).toArray, .int .i64 bits] w fun e w' => e = .returned (.bool true) ∧ Below w.heap.size w w' := by
  have k0 : (0 : Int) ≤ (k : Int) := by omega
  have k1 : (k : Int) ≤ 255 := by omega
  obtain ⟨r, hr0⟩ : ∃ r, r = k % 3 := ⟨_, rfl⟩
  have hr2 : (k : Int) % 3 = (r : Int) := by omega
  have hr3 : r ≤ 2 := by omega
  have hw : IntKind.i64.wrap (k : Int) = (k : Int) := IntWalk.i64_in _ (by omega)
  have HS := hid hs
  have HV := hid hv
  have t0 : decide ((60 : Int) < ((seed.size : Nat) : Int)) = false := by simp; omega
  have t1 : decide ((20 : Int) < ((n : Nat) : Int)) = false := by simp; omega
  have t2 : decide ((10 : Int) < ((n1 : Nat) : Int)) = false := by simp; omega
  have t3 : decide ((300 : Int) < (((bs sa).size : Nat) : Int)) = false := by simp; omega
  have t4 : decide ((300 : Int) < (((bs sc).size : Nat) : Int)) = true := by simp; omega
  clear hk hr0 hr3 hs hv h0 h1 h2 h3 h4
  go_enter Tryz.func6, Tryz.ntmps6
  have HB := hid (grow_refl w)
  apply wp_seq_k; intro _ _; apply wp_region_lit
  refine op_box (l := sum) rfl rfl rfl ?_
  intro gs w1 hgl hgu hb hr
  have XL := hid (Nat.le_trans HB.out.size hgl)
  replace HB := hid (Grow.trans HB.out hb)
  have X := hid hr; have XU := hid hgu
  clear hr hgl hgu hb
  try simp only [Act.put, List.setIfInBounds_toArray, List.set_cons_zero, List.set_cons_succ]
  refine op_boxC (cs := #[.int .i64 leaf, .slice S1 n1 c1, .slice S2 n2 c2, .slice S3 n3 c3]) rfl rfl rfl rfl ?_
  intro gx w2 hgl hgu hb hr
  have GL := hid (Nat.le_trans HB.out.size hgl)
  replace HB := hid (Grow.trans HB.out hb)
  replace X := hid (grow_block X.out hb)
  have G := hid hr; have GU := hid hgu
  clear hr hgl hgu hb
  try simp only [Act.put, List.setIfInBounds_toArray, List.set_cons_zero, List.set_cons_succ]
  refine op_boxC (cs := (witC kk sa sc lf bt sd v).toArray) rfl rfl rfl rfl ?_
  intro gw w3 hgl hgu hb hr
  have WL := hid (Nat.le_trans HB.out.size hgl)
  replace HB := hid (Grow.trans HB.out hb)
  replace X := hid (grow_block X.out hb)
  replace G := hid (grow_block G.out hb)
  have W := hid hr; have WU := hid hgu
  clear hr hgl hgu hb
  try simp only [Act.put, List.setIfInBounds_toArray, List.set_cons_zero, List.set_cons_succ]
  go_wp2_with (first | (refine op_allocstoreB (z := [.int .i64 0, .int .i64 0]) (cs := [.int .i64 8, .int .i64 (r : Int)]) rfl rfl rfl rfl rfl rfl (fun _ => by kernel_rfl) (fun _ => rfl) (fun _ => rfl) rfl (by kernel_rfl) (by intro v hv; simp at hv; rcases hv with rfl | rfl <;> rfl) ?_) | fail)
  intro gp wp hgl hgu hb hr
  replace HB := hid (Grow.trans HB.out hb)
  replace X := hid (grow_block X.out hb)
  replace G := hid (grow_block G.out hb)
  replace W := hid (grow_block W.out hb)
  clear hb
  have P := hid (show wp.heap[gp]? = some (.cells #[.int .i64 8, .int .i64 (r : Int)] 54 (0, 0)) from hr)
  clear hgl hgu hr
  go_wp2_with (first | (refine opG_load1 (i := 1) (v := .string (bs sa)) rfl rfl rfl W.out rfl Tryz.underlying9 rfl ?_) | (refine opG_load1 (i := 2) (v := .string (bs sc)) rfl rfl rfl W.out rfl Tryz.underlying9 rfl ?_) | (refine opG_loadB rfl rfl rfl P.out Tryz.underlying54 rfl rfl ?_) | (refine opG_load1 rfl rfl rfl P.out rfl Tryz.underlying3 rfl ?_) | (refine opG_loadB rfl rfl rfl G.out Tryz.underlying58 rfl rfl ?_) | (refine opG_load1 rfl rfl rfl G.out rfl Tryz.underlying3 rfl ?_) | (refine opG_load1 rfl rfl rfl G.out rfl Tryz.underlying56 rfl ?_) | (refine op_loadId rfl rfl rfl X.out (HS.out) ?_) |  fail)
  refine (awake09 _).mono ?_
  rintro e w4 ⟨rfl, hb⟩
  replace HB := hid (Grow.trans HB.out hb)
  replace X := hid (grow_block X.out hb)
  replace G := hid (grow_block G.out hb)
  replace W := hid (grow_block W.out hb)
  replace P := hid (grow_block P.out hb)
  clear hb
  go_wp2_with fail
  go_ret
  exact ⟨rfl, HB.out⟩
theorem run_build7 (w : World) : (Instr.build 54 #[(0, .int .i64 7)]).run Tryz.prog w = .ok (.agg #[.int .i64 7, .int .i64 0]) w := by kernel_rfl
theorem witnessHolds_good (w : World) (k : Nat) (hk : k < 256) (seed : ByteArray) (h60 : ¬ 60 < seed.size) (A : Option Addr) (n c : Nat) (h20 : ¬ 20 < n) (fs : List WRow) (hx : WrRow w A fs) (hn : fs.length = n) (h32 : ∀ x ∈ fs, x.2.length = 32) (hwf : ∀ x ∈ fs, (Lit.int .i64 x.1).wf = true) (sum : IdK) (hs : sum.length = 32) (leaf : Int) (S1 S2 S3 : Option Addr) (n1 n2 n3 c1 c2 c3 : Nat) (kk : Int) (sa sc : List UInt8) (lf bt sd : Int) (v : IdK) (hv : v.length = 32) (bits : Int) (h10 : ¬ 10 < n1) (ha3 : ¬ 300 < (bs sa).size) (hc3 : ¬ 300 < (bs sc).size) (hlf : lf ≤ 9223372036854775807) :
    Calls Tryz.prog 6 #[.int .u8 (k : Int), .string seed, .slice A n c, idV sum, .agg #[.int .i64 leaf, .slice S1 n1 c1, .slice S2 n2 c2, .slice S3 n3 c3], .agg (witC kk sa sc lf bt sd v).toArray, .int .i64 bits] w fun e w' => e = .returned (.bool true) ∧ Below w.heap.size w w' := by
  have k0 : (0 : Int) ≤ (k : Int) := by omega
  have k1 : (k : Int) ≤ 255 := by omega
  obtain ⟨r, hr0⟩ : ∃ r, r = k % 3 := ⟨_, rfl⟩
  have hr2 : (k : Int) % 3 = (r : Int) := by omega
  have hr3 : r ≤ 2 := by omega
  have hw : IntKind.i64.wrap (k : Int) = (k : Int) := IntWalk.i64_in _ (by omega)
  have HS := hid hs
  have HV := hid hv
  have t0 : decide ((60 : Int) < (seed.size : Int)) = false := by simp; omega
  have t1 : decide ((20 : Int) < (n : Int)) = false := by simp; omega
  have t2 : decide ((10 : Int) < (n1 : Int)) = false := by simp; omega
  have t3 : decide ((300 : Int) < ((bs sa).size : Int)) = false := by simp; omega
  have t4 : decide ((300 : Int) < ((bs sc).size : Int)) = false := by simp; omega
  have hsd : seed.size ≤ 1000000 := by omega
  have hkt : ktB ((8 : Nat) : Int) (r : Int) = true := by unfold ktB; rw [show rightB ((8 : Nat) : Int) = true by decide]; simp; omega
  have l1 : sa.length ≤ 140737488355328 := by rw [bs_size] at ha3; omega
  have l2 : sc.length ≤ 140737488355328 := by rw [bs_size] at hc3; omega
  have z1 : (bs sa).size ≤ 300 := by omega
  have z2 : (bs sc).size ≤ 300 := by omega
  obtain ⟨M, hM⟩ : ∃ M : Nat, max bits 0 = (M : Int) := ⟨(max bits 0).toNat, by omega⟩
  obtain ⟨N, hN⟩ : ∃ N : Nat, min (M : Int) 256 = (N : Int) := ⟨(min (M : Int) 256).toNat, by omega⟩
  obtain ⟨kb, hkb⟩ : ∃ kb : Bool, kb = true ↔ keepsW fs := by
    by_cases hh : keepsW fs
    · exact ⟨true, by simp [hh]⟩
    · exact ⟨false, by simp [hh]⟩
  have HPL := hid (fun w q => plain09 A n c fs w q hn h32 (by omega))
  have HLH := hid (fun (A : Option Addr) (c : Nat) w (q : WrRow w A fs) => lawHolds seed hsd 8 r hkt A n c fs sum hs leaf S1 S2 S3 n1 n2 n3 c1 c2 c3 kk sa sc l1 l2 lf bt sd hlf v hv w q hn h32)
  have HWH := hid (fun w (q : WrRow w A fs) => wHolds seed hsd 8 r hkt A n c fs sum hs leaf S1 S2 S3 n1 n2 n3 c1 c2 c3 kk sa sc l1 l2 lf bt sd hlf v hv w q hn h32)
  have HWB := hid (fun w => wHolds_bad seed 7 0 (by decide) (.slice A n c) sum leaf S1 S2 S3 n1 n2 n3 c1 c2 c3 kk sa sc lf bt sd v w)
  have HWK := hid (fun w (q : WrRow w A fs) => wKeeps A n c fs kb w q hn h32 hwf (by omega) hkb)
  have HLK := hid (fun (A : Option Addr) (c : Nat) w (q : WrRow w A fs) => refKeeps9 A n c fs kb w q hn hkb)
  have HWA := hid (fun w => wAlike bits M N hM hN sum v hs hv w)
  have HLA := hid (fun w => refAlike9 bits M N hM hN sum v hs hv w)
  have HX := hid hx
  have HN := hid hn
  have H32 := hid h32
  have HB7 := hid run_build7
  have n20 : n ≤ 20 := by omega
  have a10 : n1 ≤ 10 := by omega
  generalize holdsB 8 seed fs sum leaf kk sa sc lf bt sd v = hb0 at *
  generalize alikeB N sum v = ab at *
  clear hk hr0 hr3 hs hv hkt hsd hx hn h32 hwf h60 h20 h10 ha3 hc3 hlf l1 l2 hM hN hkb
  go_enter Tryz.func6, Tryz.ntmps6
  have HB := hid (grow_refl w)
  apply wp_seq_k; intro _ _; apply wp_region_lit
  refine op_box (l := sum) rfl rfl rfl ?_
  intro gs w1 hgl hgu hb hr
  have XL := hid (Nat.le_trans HB.out.size hgl)
  replace HB := hid (Grow.trans HB.out hb)
  replace HX := hid (HX.out.grow hb)
  have X := hid hr; have XU := hid hgu
  clear hr hgl hgu hb
  try simp only [Act.put, List.setIfInBounds_toArray, List.set_cons_zero, List.set_cons_succ]
  refine op_boxC (cs := #[.int .i64 leaf, .slice S1 n1 c1, .slice S2 n2 c2, .slice S3 n3 c3]) rfl rfl rfl rfl ?_
  intro gx w2 hgl hgu hb hr
  have GL := hid (Nat.le_trans HB.out.size hgl)
  replace HB := hid (Grow.trans HB.out hb)
  replace HX := hid (HX.out.grow hb)
  replace X := hid (grow_block X.out hb)
  have G := hid hr; have GU := hid hgu
  clear hr hgl hgu hb
  try simp only [Act.put, List.setIfInBounds_toArray, List.set_cons_zero, List.set_cons_succ]
  refine op_boxC (cs := (witC kk sa sc lf bt sd v).toArray) rfl rfl rfl rfl ?_
  intro gw w3 hgl hgu hb hr
  have WL := hid (Nat.le_trans HB.out.size hgl)
  replace HB := hid (Grow.trans HB.out hb)
  replace HX := hid (HX.out.grow hb)
  replace X := hid (grow_block X.out hb)
  replace G := hid (grow_block G.out hb)
  have W := hid hr; have WU := hid hgu
  clear hr hgl hgu hb
  try simp only [Act.put, List.setIfInBounds_toArray, List.set_cons_zero, List.set_cons_succ]
  go_wp2_with (first | (refine op_allocstoreB (z := [.int .i64 0, .int .i64 0]) (cs := [.int .i64 8, .int .i64 (r : Int)]) rfl rfl rfl rfl rfl rfl (fun _ => by kernel_rfl) (fun _ => rfl) (fun _ => rfl) rfl (by kernel_rfl) (by intro v hv; simp at hv; rcases hv with rfl | rfl <;> rfl) ?_) | fail)
  intro gp wp hgl hgu hb hr
  replace HB := hid (Grow.trans HB.out hb)
  replace HX := hid (HX.out.grow hb)
  replace X := hid (grow_block X.out hb)
  replace G := hid (grow_block G.out hb)
  replace W := hid (grow_block W.out hb)
  clear hb
  have P := hid (show wp.heap[gp]? = some (.cells #[.int .i64 8, .int .i64 (r : Int)] 54 (0, 0)) from hr)
  clear hgl hgu hr
  go_wp2_with (first | (refine opG_load1 (i := 1) (v := .string (bs sa)) rfl rfl rfl W.out rfl Tryz.underlying9 rfl ?_) | (refine opG_load1 (i := 2) (v := .string (bs sc)) rfl rfl rfl W.out rfl Tryz.underlying9 rfl ?_) | (refine opG_loadB rfl rfl rfl P.out Tryz.underlying54 rfl rfl ?_) | (refine opG_load1 rfl rfl rfl P.out rfl Tryz.underlying3 rfl ?_) | (refine opG_loadB rfl rfl rfl G.out Tryz.underlying58 rfl rfl ?_) | (refine opG_load1 rfl rfl rfl G.out rfl Tryz.underlying3 rfl ?_) | (refine opG_load1 rfl rfl rfl G.out rfl Tryz.underlying56 rfl ?_) | (refine op_loadId rfl rfl rfl X.out (HS.out) ?_) |  fail)
  refine (HPL.out _ HX.out).mono ?_
  rintro _ wq ⟨vp, rfl, ho, hb⟩
  replace HB := hid (Grow.trans HB.out hb)
  replace HX := hid (HX.out.grow hb)
  replace X := hid (grow_block X.out hb)
  replace G := hid (grow_block G.out hb)
  replace W := hid (grow_block W.out hb)
  replace P := hid (grow_block P.out hb)
  clear hb
  obtain ⟨Ap, cp, rfl, hrow⟩ := wrRow_own ho HN.out H32.out (by omega)
  have RP := hid hrow
  clear ho hrow
  go_wp2_with fail
  (refine' wp_region_head 24 0 [_, _, _, _, _, _, _, _, _, _, _, _, _, _, _, _, _, _, _, _, _, _, _, _] rfl (by kernel_rfl) (by kernel_rfl) ?hreg1; case' hreg1 => simp only [List.take_succ_cons, List.take_zero, List.zip_cons_cons, List.zip_nil_right, List.drop_succ_cons, List.drop_zero, List.drop_nil])
  (refine' head_loadB rfl ?_ rfl rfl P.out Tryz.underlying54 rfl rfl ?_; (first | exact fun _ _ _ => trivial | (intro t ht w; cases ht; simp [upE])); try simp only [Act.put, List.setIfInBounds_toArray, List.set_cons_zero, List.set_cons_succ])
  (refine' head_val ?dw2 ?de2 ?dr2 ?dh2; (case' dw2 => rfl); (case' de2 => (first | exact fun _ _ _ => trivial | (intro t ht w; cases ht; simp [upE]))); (case' dr2 => (intro w' hw' _; go_simp; with_reducible rfl)); (case' dh2 => (try simp only [Act.put, List.setIfInBounds_toArray, List.set_cons_zero, List.set_cons_succ]))); (refine' head_val ?dw3 ?de3 ?dr3 ?dh3; (case' dw3 => rfl); (case' de3 => (first | exact fun _ _ _ => trivial | (intro t ht w; cases ht; simp [upE]))); (case' dr3 => (intro w' hw' _; go_simp; with_reducible rfl)); (case' dh3 => (try simp only [Act.put, List.setIfInBounds_toArray, List.set_cons_zero, List.set_cons_succ])))
  (refine' head_loadId (x := _) rfl ?_ rfl rfl X.out (HS.out) ?_; (first | exact fun _ _ _ => trivial | (intro t ht w; cases ht; simp [upE])); try simp only [Act.put, List.setIfInBounds_toArray, List.set_cons_zero, List.set_cons_succ])
  (refine' head_loadB rfl ?_ rfl rfl G.out Tryz.underlying58 rfl rfl ?_; (first | exact fun _ _ _ => trivial | (intro t ht w; cases ht; simp [upE])); try simp only [Act.put, List.setIfInBounds_toArray, List.set_cons_zero, List.set_cons_succ])
  (refine' head_loadB rfl ?_ rfl rfl W.out Tryz.underlying61 rfl (by rw [infoWit, List.size_toArray, witC_length HV.out]) ?_; (first | exact fun _ _ _ => trivial | (intro t ht w; cases ht; simp [upE])); try simp only [Act.put, List.setIfInBounds_toArray, List.set_cons_zero, List.set_cons_succ])
  (refine' head_call ?cw4 ?ce4 ?cr4 ?cc4 ?ch4; (case' cw4 => rfl); (case' ce4 => (first | exact fun _ _ _ => trivial | (intro t ht w; cases ht; simp [upE]))); (case' cr4 => (intro w'; go_simp; first | exact ⟨rfl, rfl⟩ | with_reducible rfl)); (case' cc4 => (intro w' hw' _; exact HWH.out w' (HX.out.grow hw'))); (case' ch4 => (try simp only [Act.put, List.setIfInBounds_toArray, List.set_cons_zero, List.set_cons_succ])))
  (refine' head_loadB rfl ?_ rfl rfl P.out Tryz.underlying54 rfl rfl ?_; (first | exact fun _ _ _ => trivial | (intro t ht w; cases ht; simp [upE])); try simp only [Act.put, List.setIfInBounds_toArray, List.set_cons_zero, List.set_cons_succ])
  (refine' head_val ?dw5 ?de5 ?dr5 ?dh5; (case' dw5 => rfl); (case' de5 => (first | exact fun _ _ _ => trivial | (intro t ht w; cases ht; simp [upE]))); (case' dr5 => (intro w' hw' _; go_simp; with_reducible rfl)); (case' dh5 => (try simp only [Act.put, List.setIfInBounds_toArray, List.set_cons_zero, List.set_cons_succ]))); (refine' head_val ?dw6 ?de6 ?dr6 ?dh6; (case' dw6 => rfl); (case' de6 => (first | exact fun _ _ _ => trivial | (intro t ht w; cases ht; simp [upE]))); (case' dr6 => (intro w' hw' _; go_simp; with_reducible rfl)); (case' dh6 => (try simp only [Act.put, List.setIfInBounds_toArray, List.set_cons_zero, List.set_cons_succ])))
  (refine' head_loadId (x := _) rfl ?_ rfl rfl X.out (HS.out) ?_; (first | exact fun _ _ _ => trivial | (intro t ht w; cases ht; simp [upE])); try simp only [Act.put, List.setIfInBounds_toArray, List.set_cons_zero, List.set_cons_succ])
  (refine' head_loadB rfl ?_ rfl rfl G.out Tryz.underlying58 rfl rfl ?_; (first | exact fun _ _ _ => trivial | (intro t ht w; cases ht; simp [upE])); try simp only [Act.put, List.setIfInBounds_toArray, List.set_cons_zero, List.set_cons_succ])
  (refine' head_loadB rfl ?_ rfl rfl W.out Tryz.underlying61 rfl (by rw [infoWit, List.size_toArray, witC_length HV.out]) ?_; (first | exact fun _ _ _ => trivial | (intro t ht w; cases ht; simp [upE])); try simp only [Act.put, List.setIfInBounds_toArray, List.set_cons_zero, List.set_cons_succ])
  (refine' head_call ?cw7 ?ce7 ?cr7 ?cc7 ?ch7; (case' cw7 => rfl); (case' ce7 => (first | exact fun _ _ _ => trivial | (intro t ht w; cases ht; simp [upE]))); (case' cr7 => (intro w'; go_simp; first | exact ⟨rfl, rfl⟩ | with_reducible rfl)); (case' cc7 => (intro w' hw' _; exact HLH.out Ap cp w' (RP.out.grow hw'))); (case' ch7 => (try simp only [Act.put, List.setIfInBounds_toArray, List.set_cons_zero, List.set_cons_succ])))
  (refine' head_val ?dw8 ?de8 ?dr8 ?dh8; (case' dw8 => rfl); (case' de8 => (first | exact fun _ _ _ => trivial | (intro t ht w; cases ht; simp [upE]))); (case' dr8 => (intro w' hw' _; go_simp; with_reducible rfl)); (case' dh8 => (try simp only [Act.put, List.setIfInBounds_toArray, List.set_cons_zero, List.set_cons_succ]))); (refine' head_val ?dw9 ?de9 ?dr9 ?dh9; (case' dw9 => rfl); (case' de9 => (first | exact fun _ _ _ => trivial | (intro t ht w; cases ht; simp [upE]))); (case' dr9 => (intro w' hw' _; go_simp; with_reducible rfl)); (case' dh9 => (try simp only [Act.put, List.setIfInBounds_toArray, List.set_cons_zero, List.set_cons_succ])))
  (refine' head_val (v := .agg #[.int .i64 7, .int .i64 0]) ?dw10 ?de10 ?dr10 ?dh10; (case' dw10 => rfl); (case' de10 => (first | exact fun _ _ _ => trivial | (intro t ht w; cases ht; simp [upE]))); (case' dr10 => (intro w' hw' hE; exact run_opBuildW rfl (by simp only [List.map_toArray, List.map_cons, List.map_nil]; rfl) HB7.out)); (case' dh10 => (try simp only [Act.put, List.setIfInBounds_toArray, List.set_cons_zero, List.set_cons_succ])))
  (refine' head_val ?dw11 ?de11 ?dr11 ?dh11; (case' dw11 => rfl); (case' de11 => (first | exact fun _ _ _ => trivial | (intro t ht w; cases ht; simp [upE]))); (case' dr11 => (intro w' hw' _; go_simp; with_reducible rfl)); (case' dh11 => (try simp only [Act.put, List.setIfInBounds_toArray, List.set_cons_zero, List.set_cons_succ]))); (refine' head_val ?dw12 ?de12 ?dr12 ?dh12; (case' dw12 => rfl); (case' de12 => (first | exact fun _ _ _ => trivial | (intro t ht w; cases ht; simp [upE]))); (case' dr12 => (intro w' hw' _; go_simp; with_reducible rfl)); (case' dh12 => (try simp only [Act.put, List.setIfInBounds_toArray, List.set_cons_zero, List.set_cons_succ])))
  (refine' head_loadId (x := _) rfl ?_ rfl rfl X.out (HS.out) ?_; (first | exact fun _ _ _ => trivial | (intro t ht w; cases ht; simp [upE])); try simp only [Act.put, List.setIfInBounds_toArray, List.set_cons_zero, List.set_cons_succ])
  (refine' head_loadB rfl ?_ rfl rfl G.out Tryz.underlying58 rfl rfl ?_; (first | exact fun _ _ _ => trivial | (intro t ht w; cases ht; simp [upE])); try simp only [Act.put, List.setIfInBounds_toArray, List.set_cons_zero, List.set_cons_succ])
  (refine' head_loadB rfl ?_ rfl rfl W.out Tryz.underlying61 rfl (by rw [infoWit, List.size_toArray, witC_length HV.out]) ?_; (first | exact fun _ _ _ => trivial | (intro t ht w; cases ht; simp [upE])); try simp only [Act.put, List.setIfInBounds_toArray, List.set_cons_zero, List.set_cons_succ])
  (refine' head_call ?cw13 ?ce13 ?cr13 ?cc13 ?ch13; (case' cw13 => rfl); (case' ce13 => (first | exact fun _ _ _ => trivial | (intro t ht w; cases ht; simp [upE]))); (case' cr13 => (intro w'; go_simp; first | exact ⟨rfl, rfl⟩ | with_reducible rfl)); (case' cc13 => (intro w' hw' _; exact HWB.out w')); (case' ch13 => (try simp only [Act.put, List.setIfInBounds_toArray, List.set_cons_zero, List.set_cons_succ])))
  (refine' head_val ?dw14 ?de14 ?dr14 ?dh14; (case' dw14 => rfl); (case' de14 => (first | exact fun _ _ _ => trivial | (intro t ht w; cases ht; simp [upE]))); (case' dr14 => (intro w' hw' _; go_simp; with_reducible rfl)); (case' dh14 => (try simp only [Act.put, List.setIfInBounds_toArray, List.set_cons_zero, List.set_cons_succ])))
  refine head_nil ?_
  intro w4 hb _
  replace HB := hid (Grow.trans HB.out hb)
  replace HX := hid (HX.out.grow hb)
  replace X := hid (grow_block X.out hb)
  replace G := hid (grow_block G.out hb)
  replace W := hid (grow_block W.out hb)
  replace P := hid (grow_block P.out hb)
  replace RP := hid (RP.out.grow hb)
  clear hb
  refine wpList_nil ?_
  go_wp2_with fail
  (refine' wp_region_head 22 0 [_, _, _, _, _, _, _, _, _, _, _, _, _, _, _, _, _, _, _, _, _, _] rfl (by kernel_rfl) (by kernel_rfl) ?hreg15; case' hreg15 => simp only [List.take_succ_cons, List.take_zero, List.zip_cons_cons, List.zip_nil_right, List.drop_succ_cons, List.drop_zero, List.drop_nil])
  (refine' head_val ?dw16 ?de16 ?dr16 ?dh16; (case' dw16 => rfl); (case' de16 => (first | exact fun _ _ _ => trivial | (intro t ht w; cases ht; simp [upE]))); (case' dr16 => (intro w' hw' _; go_simp; with_reducible rfl)); (case' dh16 => (try simp only [Act.put, List.setIfInBounds_toArray, List.set_cons_zero, List.set_cons_succ])))
  (refine' head_call ?cw17 ?ce17 ?cr17 ?cc17 ?ch17; (case' cw17 => rfl); (case' ce17 => (first | exact fun _ _ _ => trivial | (intro t ht w; cases ht; simp [upE]))); (case' cr17 => (intro w'; go_simp; first | exact ⟨rfl, rfl⟩ | with_reducible rfl)); (case' cc17 => (intro w' hw' _; exact HWK.out w' (HX.out.grow hw'))); (case' ch17 => (try simp only [Act.put, List.setIfInBounds_toArray, List.set_cons_zero, List.set_cons_succ])))
  (refine' head_val ?dw18 ?de18 ?dr18 ?dh18; (case' dw18 => rfl); (case' de18 => (first | exact fun _ _ _ => trivial | (intro t ht w; cases ht; simp [upE]))); (case' dr18 => (intro w' hw' _; go_simp; with_reducible rfl)); (case' dh18 => (try simp only [Act.put, List.setIfInBounds_toArray, List.set_cons_zero, List.set_cons_succ])))
  (refine' head_call ?cw19 ?ce19 ?cr19 ?cc19 ?ch19; (case' cw19 => rfl); (case' ce19 => (first | exact fun _ _ _ => trivial | (intro t ht w; cases ht; simp [upE]))); (case' cr19 => (intro w'; go_simp; first | exact ⟨rfl, rfl⟩ | with_reducible rfl)); (case' cc19 => (intro w' hw' _; exact HLK.out Ap cp w' (RP.out.grow hw'))); (case' ch19 => (try simp only [Act.put, List.setIfInBounds_toArray, List.set_cons_zero, List.set_cons_succ])))
  (refine' head_val ?dw20 ?de20 ?dr20 ?dh20; (case' dw20 => rfl); (case' de20 => (first | exact fun _ _ _ => trivial | (intro t ht w; cases ht; simp [upE]))); (case' dr20 => (intro w' hw' _; go_simp; with_reducible rfl)); (case' dh20 => (try simp only [Act.put, List.setIfInBounds_toArray, List.set_cons_zero, List.set_cons_succ]))); (refine' head_val ?dw21 ?de21 ?dr21 ?dh21; (case' dw21 => rfl); (case' de21 => (first | exact fun _ _ _ => trivial | (intro t ht w; cases ht; simp [upE]))); (case' dr21 => (intro w' hw' _; go_simp; with_reducible rfl)); (case' dh21 => (try simp only [Act.put, List.setIfInBounds_toArray, List.set_cons_zero, List.set_cons_succ]))); (refine' head_val ?dw22 ?de22 ?dr22 ?dh22; (case' dw22 => rfl); (case' de22 => (first | exact fun _ _ _ => trivial | (intro t ht w; cases ht; simp [upE]))); (case' dr22 => (intro w' hw' _; go_simp; with_reducible rfl)); (case' dh22 => (try simp only [Act.put, List.setIfInBounds_toArray, List.set_cons_zero, List.set_cons_succ])))
  (refine' head_loadId (x := _) rfl ?_ rfl rfl X.out (HS.out) ?_; (first | exact fun _ _ _ => trivial | (intro t ht w; cases ht; simp [upE])); try simp only [Act.put, List.setIfInBounds_toArray, List.set_cons_zero, List.set_cons_succ])
  (refine' head_val ?dw23 ?de23 ?dr23 ?dh23; (case' dw23 => rfl); (case' de23 => (first | exact fun _ _ _ => trivial | (intro t ht w; cases ht; simp [upE]))); (case' dr23 => (intro w' hw' _; go_simp; with_reducible rfl)); (case' dh23 => (try simp only [Act.put, List.setIfInBounds_toArray, List.set_cons_zero, List.set_cons_succ])))
  (refine' head_loadAt (x := _) rfl ?_ rfl rfl (wit_val_cells W.out) (HV.out) ?_; (first | exact fun _ _ _ => trivial | (intro t ht w; cases ht; simp [upE])); try simp only [Act.put, List.setIfInBounds_toArray, List.set_cons_zero, List.set_cons_succ])
  (refine' head_call ?cw24 ?ce24 ?cr24 ?cc24 ?ch24; (case' cw24 => rfl); (case' ce24 => (first | exact fun _ _ _ => trivial | (intro t ht w; cases ht; simp [upE]))); (case' cr24 => (intro w'; go_simp; first | exact ⟨rfl, rfl⟩ | with_reducible rfl)); (case' cc24 => (intro w' hw' _; exact HWA.out w')); (case' ch24 => (try simp only [Act.put, List.setIfInBounds_toArray, List.set_cons_zero, List.set_cons_succ])))
  (refine' head_val ?dw25 ?de25 ?dr25 ?dh25; (case' dw25 => rfl); (case' de25 => (first | exact fun _ _ _ => trivial | (intro t ht w; cases ht; simp [upE]))); (case' dr25 => (intro w' hw' _; go_simp; with_reducible rfl)); (case' dh25 => (try simp only [Act.put, List.setIfInBounds_toArray, List.set_cons_zero, List.set_cons_succ])))
  (refine' head_loadId (x := _) rfl ?_ rfl rfl X.out (HS.out) ?_; (first | exact fun _ _ _ => trivial | (intro t ht w; cases ht; simp [upE])); try simp only [Act.put, List.setIfInBounds_toArray, List.set_cons_zero, List.set_cons_succ])
  (refine' head_val ?dw26 ?de26 ?dr26 ?dh26; (case' dw26 => rfl); (case' de26 => (first | exact fun _ _ _ => trivial | (intro t ht w; cases ht; simp [upE]))); (case' dr26 => (intro w' hw' _; go_simp; with_reducible rfl)); (case' dh26 => (try simp only [Act.put, List.setIfInBounds_toArray, List.set_cons_zero, List.set_cons_succ])))
  (refine' head_loadAt (x := _) rfl ?_ rfl rfl (wit_val_cells W.out) (HV.out) ?_; (first | exact fun _ _ _ => trivial | (intro t ht w; cases ht; simp [upE])); try simp only [Act.put, List.setIfInBounds_toArray, List.set_cons_zero, List.set_cons_succ])
  (refine' head_call ?cw27 ?ce27 ?cr27 ?cc27 ?ch27; (case' cw27 => rfl); (case' ce27 => (first | exact fun _ _ _ => trivial | (intro t ht w; cases ht; simp [upE]))); (case' cr27 => (intro w'; go_simp; first | exact ⟨rfl, rfl⟩ | with_reducible rfl)); (case' cc27 => (intro w' hw' _; exact HLA.out w')); (case' ch27 => (try simp only [Act.put, List.setIfInBounds_toArray, List.set_cons_zero, List.set_cons_succ])))
  (refine' head_val ?dw28 ?de28 ?dr28 ?dh28; (case' dw28 => rfl); (case' de28 => (first | exact fun _ _ _ => trivial | (intro t ht w; cases ht; simp [upE]))); (case' dr28 => (intro w' hw' _; go_simp; with_reducible rfl)); (case' dh28 => (try simp only [Act.put, List.setIfInBounds_toArray, List.set_cons_zero, List.set_cons_succ]))); (refine' head_val ?dw29 ?de29 ?dr29 ?dh29; (case' dw29 => rfl); (case' de29 => (first | exact fun _ _ _ => trivial | (intro t ht w; cases ht; simp [upE]))); (case' dr29 => (intro w' hw' _; go_simp; with_reducible rfl)); (case' dh29 => (try simp only [Act.put, List.setIfInBounds_toArray, List.set_cons_zero, List.set_cons_succ]))); (refine' head_val ?dw30 ?de30 ?dr30 ?dh30; (case' dw30 => rfl); (case' de30 => (first | exact fun _ _ _ => trivial | (intro t ht w; cases ht; simp [upE]))); (case' dr30 => (intro w' hw' _; go_simp; with_reducible rfl)); (case' dh30 => (try simp only [Act.put, List.setIfInBounds_toArray, List.set_cons_zero, List.set_cons_succ])))
  (refine' head_call ?cw31 ?ce31 ?cr31 ?cc31 ?ch31; (case' cw31 => rfl); (case' ce31 => (first | exact fun _ _ _ => trivial | (intro t ht w; cases ht; simp [upE]))); (case' cr31 => (intro w'; go_simp; first | exact ⟨rfl, rfl⟩ | with_reducible rfl)); (case' cc31 => (intro w' hw' _; exact awake09 w')); (case' ch31 => (try simp only [Act.put, List.setIfInBounds_toArray, List.set_cons_zero, List.set_cons_succ])))
  (refine' head_val ?dw32 ?de32 ?dr32 ?dh32; (case' dw32 => rfl); (case' de32 => (first | exact fun _ _ _ => trivial | (intro t ht w; cases ht; simp [upE]))); (case' dr32 => (intro w' hw' _; go_simp; with_reducible rfl)); (case' dh32 => (try simp only [Act.put, List.setIfInBounds_toArray, List.set_cons_zero, List.set_cons_succ]))); (refine' head_val ?dw33 ?de33 ?dr33 ?dh33; (case' dw33 => rfl); (case' de33 => (first | exact fun _ _ _ => trivial | (intro t ht w; cases ht; simp [upE]))); (case' dr33 => (intro w' hw' _; go_simp; with_reducible rfl)); (case' dh33 => (try simp only [Act.put, List.setIfInBounds_toArray, List.set_cons_zero, List.set_cons_succ])))
  refine head_nil ?_
  intro w5 hb _
  replace HB := hid (Grow.trans HB.out hb)
  replace HX := hid (HX.out.grow hb)
  replace X := hid (grow_block X.out hb)
  replace G := hid (grow_block G.out hb)
  replace W := hid (grow_block W.out hb)
  replace P := hid (grow_block P.out hb)
  replace RP := hid (RP.out.grow hb)
  clear hb
  refine wpList_nil ?_
  go_wp2_with fail
  go_ret
  exact ⟨rfl, HB.out⟩
theorem witnessHolds (a0 : Int) (h0 : (Lit.int .u8 a0).wf = true) (seed : ByteArray) (hsz : seed.size ≤ 140737488351232) (A : Option Addr) (n c : Nat) (fs : List WRow) (sum : IdK) (hs : sum.length = 32) (leaf : Int) (S1 S2 S3 : Option Addr) (n1 n2 n3 c1 c2 c3 : Nat) (kk : Int) (sa sc : List UInt8) (lf bt sd : Int) (v : IdK) (hv : v.length = 32) (hlw : (Lit.int .i64 lf).wf = true) (bits : Int) (m1 : n1 ≤ 9223372036854775807) (w : World) (hx : WrRow w A fs) (hn : fs.length = n) (h32 : ∀ x ∈ fs, x.2.length = 32) (hwf : ∀ x ∈ fs, (Lit.int .i64 x.1).wf = true) :
    Calls Tryz.prog 6 #[.int .u8 a0, .string seed, .slice A n c, idV sum, .agg #[.int .i64 leaf, .slice S1 n1 c1, .slice S2 n2 c2, .slice S3 n3 c3], .agg (witC kk sa sc lf bt sd v).toArray, .int .i64 bits] w fun e w' => e = .returned (.bool true) ∧ Below w.heap.size w w' := by
  obtain ⟨k, rfl, hk⟩ : ∃ k : Nat, a0 = (k : Int) ∧ k < 256 := by
    simp [Lit.wf, IntKind.min, IntKind.max, IntKind.signed, IntKind.bits] at h0
    exact ⟨a0.toNat, by omega, by omega⟩
  have hlf : lf ≤ 9223372036854775807 := by
    simp [Lit.wf, IntKind.min, IntKind.max, IntKind.signed, IntKind.bits] at hlw
    omega
  have n9 : n ≤ 9223372036854775807 := by have := hx.1; omega
  by_cases d0 : 60 < seed.size
  · exact witnessHolds_long0 k hk seed hsz A n c n9 sum hs leaf S1 S2 S3 n1 n2 n3 c1 c2 c3 kk sa sc lf bt sd v hv bits m1 w d0
  by_cases d1 : 20 < n
  · exact witnessHolds_long1 k hk seed hsz A n c n9 sum hs leaf S1 S2 S3 n1 n2 n3 c1 c2 c3 kk sa sc lf bt sd v hv bits m1 w d0 d1
  by_cases d2 : 10 < n1
  · exact witnessHolds_long2 k hk seed hsz A n c n9 sum hs leaf S1 S2 S3 n1 n2 n3 c1 c2 c3 kk sa sc lf bt sd v hv bits m1 w d0 d1 d2
  by_cases d3 : 300 < (bs sa).size
  · exact witnessHolds_long3 k hk seed hsz A n c n9 sum hs leaf S1 S2 S3 n1 n2 n3 c1 c2 c3 kk sa sc lf bt sd v hv bits m1 w d0 d1 d2 d3
  by_cases d4 : 300 < (bs sc).size
  · exact witnessHolds_long4 k hk seed hsz A n c n9 sum hs leaf S1 S2 S3 n1 n2 n3 c1 c2 c3 kk sa sc lf bt sd v hv bits m1 w d0 d1 d2 d3 d4
  exact witnessHolds_good w k hk seed d0 A n c d1 fs hx hn h32 hwf sum hs leaf S1 S2 S3 n1 n2 n3 c1 c2 c3 kk sa sc lf bt sd v hv bits d2 d3 d4 hlf
end Go.Proofs.YtabkaflccaklhaaGreat
