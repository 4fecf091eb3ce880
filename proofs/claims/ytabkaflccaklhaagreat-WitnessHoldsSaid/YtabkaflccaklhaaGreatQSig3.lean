/- signer.Root, Verify, the reference's Key: contracts. -/
import Derived.Test.YtabkaflccaklhaaGreatQSig2
import Derived.Test.YtabkaflccaklhaaGreatQKeyL3
import Derived.Test.YtabkaflccaklhaaGreatQLamp2
set_option linter.unusedSimpArgs false
set_option linter.unusedVariables false
namespace Go.Proofs.YtabkaflccaklhaaGreat
open Go.RowKit
open Go.Qk hiding rotr b4
set_option maxHeartbeats 1000000
set_option maxRecDepth 100000
theorem fits_spec {b h leaf : Int} {n m k : Nat} (hf : fitsB b h leaf n m k = true) : ktB b h = true ∧ 0 ≤ leaf ∧ leaf < 1025 ∧ (n : Int) = b ∧ (m : Int) = b ∧ (k : Int) = h := by
  simp only [fitsB, Bool.and_eq_true, decide_eq_true_eq] at hf
  obtain ⟨hk, h0, h1, h2, h3, h4⟩ := hf
  obtain ⟨_, _, q3, q4⟩ := kt_bounds hk
  have : 2 ^ h.toNat ≤ 2 ^ 10 := Nat.pow_le_pow_right (by omega) (by omega)
  exact ⟨hk, h0, by omega, h2, h3, h4⟩
def rootOf (sum : IdK) (leaf : Int) (shown hidden way : List IdK) : IdK := climbTo leaf.toNat (recRes sum shown hidden) way
theorem rootOf_length (sum : IdK) (leaf : Int) (shown hidden way : List IdK) : (rootOf sum leaf shown hidden way).length = 32 := climbTo_length _ _ _ (recRes_length _ _ _)
theorem sgRoot_bad (b h leaf : Int) (sum : IdK) (hs : sum.length = 32) (A B C : Option Addr) (n m k c d e : Nat) (hf : fitsB b h leaf n m k = false) (w : World) :
    Calls Tryz.prog 99 #[.agg #[.int .i64 b, .int .i64 h], idV sum, .agg #[.int .i64 leaf, .slice A n c, .slice B m d, .slice C k e]] w fun e w' => e = .returned (.tuple #[idV (zero8 32), .int .i64 3]) ∧ Below w.heap.size w w' := by
  have HF := hid (fun w => sgFits b h leaf A B C n m k c d e w)
  rw [hf] at HF
  clear hf
  go_enter Tryz.func99, Tryz.ntmps99
  have HB := hid (grow_refl w)
  apply wp_seq_k; intro _ _; apply wp_region_lit
  refine op_boxC (cs := #[.int .i64 b, .int .i64 h]) rfl rfl rfl rfl ?_
  intro gp w1 hgl hgu hb hr
  have PL := hid (Nat.le_trans HB.out.size hgl)
  replace HB := hid (Grow.trans HB.out hb)
  have P := hid hr; have PU := hid hgu
  clear hr hgl hgu hb
  try simp only [Act.put, List.setIfInBounds_toArray, List.set_cons_zero, List.set_cons_succ]
  refine op_box (l := sum) rfl rfl rfl ?_
  intro gs w2 hgl hgu hb hr
  have SL := hid (Nat.le_trans HB.out.size hgl)
  replace HB := hid (Grow.trans HB.out hb)
  replace P := hid (grow_block P.out hb)
  have S := hid hr; have SU := hid hgu
  clear hr hgl hgu hb
  try simp only [Act.put, List.setIfInBounds_toArray, List.set_cons_zero, List.set_cons_succ]
  refine op_boxC (cs := #[.int .i64 leaf, .slice A n c, .slice B m d, .slice C k e]) rfl rfl rfl rfl ?_
  intro gx w3 hgl hgu hb hr
  have XL := hid (Nat.le_trans HB.out.size hgl)
  replace HB := hid (Grow.trans HB.out hb)
  replace P := hid (grow_block P.out hb)
  replace S := hid (grow_block S.out hb)
  have X := hid hr; have XU := hid hgu
  clear hr hgl hgu hb
  try simp only [Act.put, List.setIfInBounds_toArray, List.set_cons_zero, List.set_cons_succ]
  refine op_alloc rfl rfl ?_
  intro gr w4 hgl hgu hb hr
  have HRL := hid (Nat.le_trans HB.out.size hgl)
  replace HB := hid (Grow.trans HB.out hb)
  replace P := hid (grow_block P.out hb)
  replace S := hid (grow_block S.out hb)
  replace X := hid (grow_block X.out hb)
  have HR := hid hr; have HRU := hid hgu
  clear hr hgl hgu hb
  try simp only [Act.put, List.setIfInBounds_toArray, List.set_cons_zero, List.set_cons_succ]
  go_wp2_with (first | (refine opG_loadB rfl rfl rfl P.out Tryz.underlying54 rfl rfl ?_) | (refine opG_loadB rfl rfl rfl X.out Tryz.underlying58 rfl rfl ?_) |  fail)
  refine (HF.out _).mono ?_
  rintro e w5 ⟨rfl, hb⟩
  replace HB := hid (Grow.trans HB.out hb)
  replace P := hid (grow_block P.out hb)
  replace S := hid (grow_block S.out hb)
  replace X := hid (grow_block X.out hb)
  replace HR := hid (grow_block HR.out hb)
  clear hb
  go_wp2_with (first | (refine opG_loadB rfl rfl rfl P.out Tryz.underlying54 rfl rfl ?_) | (refine opG_loadB rfl rfl rfl X.out Tryz.underlying58 rfl rfl ?_) |  (refine op_buildId rfl rfl ?_) | (refine op_storeId (l := zero8 32) rfl rfl rfl rfl rfl HR.out (by rfl) (rfl) ?_))
  intro wz hz _ hbz
  have HZ := hid hz; have HBZ := hid (hbz _ _ HB.out HRL.out)
  clear hz hbz
  go_wp2_with fail
  refine bodyPost_ret (ret_idt rfl rfl HZ.out (rfl)) rfl ⟨?_, HBZ.out⟩
  rfl
theorem sgRoot (b h leaf : Int) (sum : IdK) (hs : sum.length = 32) (w : World) (A B C : Option Addr) (n m k c d e : Nat) (shown hidden way : List IdK) (hA : IdRow w A shown) (hB : IdRow w B hidden) (hC : IdRow w C way) (hn : shown.length = n) (hm : hidden.length = m) (hk : way.length = k) (h1 : ∀ s ∈ shown, s.length = 32) (h2 : ∀ s ∈ hidden, s.length = 32) (h3 : ∀ s ∈ way, s.length = 32) (hf : fitsB b h leaf n m k = true) :
    Calls Tryz.prog 99 #[.agg #[.int .i64 b, .int .i64 h], idV sum, .agg #[.int .i64 leaf, .slice A n c, .slice B m d, .slice C k e]] w fun e w' => e = .returned (.tuple #[idV (rootOf sum leaf shown hidden way), .int .i64 0]) ∧ Below w.heap.size w w' := by
  have HF := hid (fun w => sgFits b h leaf A B C n m k c d e w)
  rw [hf] at HF
  obtain ⟨hkt, f0, f1, f2, f3, f4⟩ := fits_spec hf
  obtain ⟨q1, q2, q3, q4⟩ := kt_bounds hkt
  have HS := hid hs
  have RA := hid hA
  have RB := hid hB
  have RC := hid hC
  have N1 := hid hn
  have N2 := hid hm
  have N3 := hid hk
  have E1 := hid h1
  have E2 := hid h2
  have E3 := hid h3
  have HRC := hid (fun w (hA : IdRow w A shown) (hB : IdRow w B hidden) => lamRecover sum hs shown hidden h1 h2 A B n m c d hn hm w hA hB)
  have LR := hid (recRes_length sum shown hidden)
  have HCL := hid (fun w (hC : IdRow w C way) => ktClimb leaf leaf.toNat (by omega) (by omega) (recRes sum shown hidden) LR.out C k e way w hC hk h3 (by omega))
  have HRO := hid (show climbTo leaf.toNat (recRes sum shown hidden) way = rootOf sum leaf shown hidden way from rfl)
  have LO := hid (rootOf_length sum leaf shown hidden way)
  rw [HRO.out] at HCL
  generalize recRes sum shown hidden = rr at *
  generalize pubErr shown hidden = pe at *
  generalize rootOf sum leaf shown hidden way = ro at *
  clear hf hkt f0 f1 f2 f3 f4 q1 q2 q3 q4 hA hB hC hn hm hk h1 h2 h3 hs HRO
  go_enter Tryz.func99, Tryz.ntmps99
  have HB := hid (grow_refl w)
  apply wp_seq_k; intro _ _; apply wp_region_lit
  refine op_boxC (cs := #[.int .i64 b, .int .i64 h]) rfl rfl rfl rfl ?_
  intro gp w1 hgl hgu hb hr
  have PL := hid (Nat.le_trans HB.out.size hgl)
  replace HB := hid (Grow.trans HB.out hb)
  replace RA := hid (RA.out.grow hb)
  replace RB := hid (RB.out.grow hb)
  replace RC := hid (RC.out.grow hb)
  have P := hid hr; have PU := hid hgu
  clear hr hgl hgu hb
  try simp only [Act.put, List.setIfInBounds_toArray, List.set_cons_zero, List.set_cons_succ]
  refine op_box (l := sum) rfl rfl rfl ?_
  intro gs w2 hgl hgu hb hr
  have SL := hid (Nat.le_trans HB.out.size hgl)
  replace HB := hid (Grow.trans HB.out hb)
  replace RA := hid (RA.out.grow hb)
  replace RB := hid (RB.out.grow hb)
  replace RC := hid (RC.out.grow hb)
  replace P := hid (grow_block P.out hb)
  have S := hid hr; have SU := hid hgu
  clear hr hgl hgu hb
  try simp only [Act.put, List.setIfInBounds_toArray, List.set_cons_zero, List.set_cons_succ]
  refine op_boxC (cs := #[.int .i64 leaf, .slice A n c, .slice B m d, .slice C k e]) rfl rfl rfl rfl ?_
  intro gx w3 hgl hgu hb hr
  have XL := hid (Nat.le_trans HB.out.size hgl)
  replace HB := hid (Grow.trans HB.out hb)
  replace RA := hid (RA.out.grow hb)
  replace RB := hid (RB.out.grow hb)
  replace RC := hid (RC.out.grow hb)
  replace P := hid (grow_block P.out hb)
  replace S := hid (grow_block S.out hb)
  have X := hid hr; have XU := hid hgu
  clear hr hgl hgu hb
  try simp only [Act.put, List.setIfInBounds_toArray, List.set_cons_zero, List.set_cons_succ]
  refine op_alloc rfl rfl ?_
  intro gr w4 hgl hgu hb hr
  have HRL := hid (Nat.le_trans HB.out.size hgl)
  replace HB := hid (Grow.trans HB.out hb)
  replace RA := hid (RA.out.grow hb)
  replace RB := hid (RB.out.grow hb)
  replace RC := hid (RC.out.grow hb)
  replace P := hid (grow_block P.out hb)
  replace S := hid (grow_block S.out hb)
  replace X := hid (grow_block X.out hb)
  have HR := hid hr; have HRU := hid hgu
  clear hr hgl hgu hb
  try simp only [Act.put, List.setIfInBounds_toArray, List.set_cons_zero, List.set_cons_succ]
  go_wp2_with (first | (refine opG_loadB rfl rfl rfl P.out Tryz.underlying54 rfl rfl ?_) | (refine opG_loadB rfl rfl rfl X.out Tryz.underlying58 rfl rfl ?_) | (refine opG_load1 rfl rfl rfl X.out rfl Tryz.underlying3 rfl ?_) | (refine opG_load1 rfl rfl rfl X.out rfl Tryz.underlying56 rfl ?_) | (refine op_loadId rfl rfl rfl S.out (HS.out) ?_) |  fail)
  refine (HF.out _).mono ?_
  rintro e w5 ⟨rfl, hb⟩
  replace HB := hid (Grow.trans HB.out hb)
  replace RA := hid (RA.out.grow hb)
  replace RB := hid (RB.out.grow hb)
  replace RC := hid (RC.out.grow hb)
  replace P := hid (grow_block P.out hb)
  replace S := hid (grow_block S.out hb)
  replace X := hid (grow_block X.out hb)
  replace HR := hid (grow_block HR.out hb)
  clear hb
  go_wp2_with (first | (refine opG_loadB rfl rfl rfl P.out Tryz.underlying54 rfl rfl ?_) | (refine opG_loadB rfl rfl rfl X.out Tryz.underlying58 rfl rfl ?_) | (refine opG_load1 rfl rfl rfl X.out rfl Tryz.underlying3 rfl ?_) | (refine opG_load1 rfl rfl rfl X.out rfl Tryz.underlying56 rfl ?_) | (refine op_loadId rfl rfl rfl S.out (HS.out) ?_) |  fail)
  refine (HRC.out _ RA.out RB.out).mono ?_
  rintro e w6 ⟨rfl, hb⟩
  replace HB := hid (Grow.trans HB.out hb)
  replace RA := hid (RA.out.grow hb)
  replace RB := hid (RB.out.grow hb)
  replace RC := hid (RC.out.grow hb)
  replace P := hid (grow_block P.out hb)
  replace S := hid (grow_block S.out hb)
  replace X := hid (grow_block X.out hb)
  replace HR := hid (grow_block HR.out hb)
  clear hb
  go_wp2_with (first | (refine opG_loadB rfl rfl rfl P.out Tryz.underlying54 rfl rfl ?_) | (refine opG_loadB rfl rfl rfl X.out Tryz.underlying58 rfl rfl ?_) | (refine opG_load1 rfl rfl rfl X.out rfl Tryz.underlying3 rfl ?_) | (refine opG_load1 rfl rfl rfl X.out rfl Tryz.underlying56 rfl ?_) | (refine op_loadId rfl rfl rfl S.out (HS.out) ?_) |  (refine op_allocstore (l := rr) rfl rfl rfl rfl rfl rfl (fun _ => rfl) ⟨fun _ => rfl, LR.out⟩ ?_))
  intro g8 w7 hgl hgu hb hr
  have H8L := hid (Nat.le_trans HB.out.size hgl)
  replace HB := hid (Grow.trans HB.out hb)
  replace RA := hid (RA.out.grow hb)
  replace RB := hid (RB.out.grow hb)
  replace RC := hid (RC.out.grow hb)
  replace P := hid (grow_block P.out hb)
  replace S := hid (grow_block S.out hb)
  replace X := hid (grow_block X.out hb)
  replace HR := hid (grow_block HR.out hb)
  have H8 := hid hr; have H8U := hid hgu
  clear hr hgl hgu hb
  try simp only [Act.put, List.setIfInBounds_toArray, List.set_cons_zero, List.set_cons_succ]
  go_wp2_with (first | (refine opG_loadB rfl rfl rfl P.out Tryz.underlying54 rfl rfl ?_) | (refine opG_loadB rfl rfl rfl X.out Tryz.underlying58 rfl rfl ?_) | (refine opG_load1 rfl rfl rfl X.out rfl Tryz.underlying3 rfl ?_) | (refine opG_load1 rfl rfl rfl X.out rfl Tryz.underlying56 rfl ?_) | (refine op_loadId rfl rfl rfl S.out (HS.out) ?_) | (refine op_loadId rfl rfl rfl H8.out (LR.out) ?_) |  fail)
  refine (HCL.out _ RC.out).mono ?_
  rintro e w8 ⟨rfl, hb⟩
  replace HB := hid (Grow.trans HB.out hb)
  replace RA := hid (RA.out.grow hb)
  replace RB := hid (RB.out.grow hb)
  replace RC := hid (RC.out.grow hb)
  replace P := hid (grow_block P.out hb)
  replace S := hid (grow_block S.out hb)
  replace X := hid (grow_block X.out hb)
  replace HR := hid (grow_block HR.out hb)
  replace H8 := hid (grow_block H8.out hb)
  clear hb
  go_wp2_with (first | (refine opG_loadB rfl rfl rfl P.out Tryz.underlying54 rfl rfl ?_) | (refine opG_loadB rfl rfl rfl X.out Tryz.underlying58 rfl rfl ?_) | (refine opG_load1 rfl rfl rfl X.out rfl Tryz.underlying3 rfl ?_) | (refine opG_load1 rfl rfl rfl X.out rfl Tryz.underlying56 rfl ?_) | (refine op_loadId rfl rfl rfl S.out (HS.out) ?_) | (refine op_loadId rfl rfl rfl H8.out (LR.out) ?_) |  (refine op_buildId rfl rfl ?_) | (refine op_storeId (l := ro) rfl rfl rfl rfl rfl HR.out (by rfl) (LO.out) ?_))
  intro wz hz _ hbz
  have HZ := hid hz; have HBZ := hid (hbz _ _ HB.out HRL.out)
  clear hz hbz
  go_wp2_with fail
  refine bodyPost_ret (ret_idt rfl rfl HZ.out (LO.out)) rfl ⟨?_, HBZ.out⟩
  rfl
def verErr (b h : Nat) (key sum : IdK) (leaf : Int) (shown hidden way : List IdK) : Int := if keyOf b h (rootOf sum leaf shown hidden way) == key then 0 else 9
theorem sgVerify_bad (b h leaf : Int) (key sum : IdK) (hkl : key.length = 32) (hs : sum.length = 32) (A B C : Option Addr) (n m k c d e : Nat) (hf : fitsB b h leaf n m k = false) (w : World) :
    Calls Tryz.prog 62 #[.agg #[.int .i64 b, .int .i64 h], idV key, idV sum, .agg #[.int .i64 leaf, .slice A n c, .slice B m d, .slice C k e]] w fun e w' => e = .returned (.int .i64 3) ∧ Below w.heap.size w w' := by
  have HF := hid (fun w => sgRoot_bad b h leaf sum hs A B C n m k c d e hf w)
  have HS := hid hs
  clear hf hs
  go_enter Tryz.func62, Tryz.ntmps62
  have HB := hid (grow_refl w)
  apply wp_seq_k; intro _ _; apply wp_region_lit
  refine op_boxC (cs := #[.int .i64 b, .int .i64 h]) rfl rfl rfl rfl ?_
  intro gp w1 hgl hgu hb hr
  have PL := hid (Nat.le_trans HB.out.size hgl)
  replace HB := hid (Grow.trans HB.out hb)
  have P := hid hr; have PU := hid hgu
  clear hr hgl hgu hb
  try simp only [Act.put, List.setIfInBounds_toArray, List.set_cons_zero, List.set_cons_succ]
  refine op_box (l := key) rfl rfl rfl ?_
  intro gk w2 hgl hgu hb hr
  have KL := hid (Nat.le_trans HB.out.size hgl)
  replace HB := hid (Grow.trans HB.out hb)
  replace P := hid (grow_block P.out hb)
  have K := hid hr; have KU := hid hgu
  clear hr hgl hgu hb
  try simp only [Act.put, List.setIfInBounds_toArray, List.set_cons_zero, List.set_cons_succ]
  refine op_box (l := sum) rfl rfl rfl ?_
  intro gs w3 hgl hgu hb hr
  have SL := hid (Nat.le_trans HB.out.size hgl)
  replace HB := hid (Grow.trans HB.out hb)
  replace P := hid (grow_block P.out hb)
  replace K := hid (grow_block K.out hb)
  have S := hid hr; have SU := hid hgu
  clear hr hgl hgu hb
  try simp only [Act.put, List.setIfInBounds_toArray, List.set_cons_zero, List.set_cons_succ]
  refine op_boxC (cs := #[.int .i64 leaf, .slice A n c, .slice B m d, .slice C k e]) rfl rfl rfl rfl ?_
  intro gx w4 hgl hgu hb hr
  have XL := hid (Nat.le_trans HB.out.size hgl)
  replace HB := hid (Grow.trans HB.out hb)
  replace P := hid (grow_block P.out hb)
  replace K := hid (grow_block K.out hb)
  replace S := hid (grow_block S.out hb)
  have X := hid hr; have XU := hid hgu
  clear hr hgl hgu hb
  try simp only [Act.put, List.setIfInBounds_toArray, List.set_cons_zero, List.set_cons_succ]
  go_wp2_with (first | (refine opG_loadB rfl rfl rfl P.out Tryz.underlying54 rfl rfl ?_) | (refine opG_loadB rfl rfl rfl X.out Tryz.underlying58 rfl rfl ?_) | (refine op_loadId rfl rfl rfl S.out (HS.out) ?_) |  fail)
  refine (HF.out _).mono ?_
  rintro e w5 ⟨rfl, hb⟩
  replace HB := hid (Grow.trans HB.out hb)
  replace P := hid (grow_block P.out hb)
  replace K := hid (grow_block K.out hb)
  replace S := hid (grow_block S.out hb)
  replace X := hid (grow_block X.out hb)
  clear hb
  go_wp2_with (first | (refine opG_loadB rfl rfl rfl P.out Tryz.underlying54 rfl rfl ?_) | (refine opG_loadB rfl rfl rfl X.out Tryz.underlying58 rfl rfl ?_) | (refine op_loadId rfl rfl rfl S.out (HS.out) ?_) |  (refine op_allocstore (l := zero8 32) rfl rfl rfl rfl rfl rfl (fun _ => rfl) ⟨fun _ => rfl, rfl⟩ ?_))
  intro g9 w6 hgl hgu hb hr
  have H9L := hid (Nat.le_trans HB.out.size hgl)
  replace HB := hid (Grow.trans HB.out hb)
  replace P := hid (grow_block P.out hb)
  replace K := hid (grow_block K.out hb)
  replace S := hid (grow_block S.out hb)
  replace X := hid (grow_block X.out hb)
  have H9 := hid hr; have H9U := hid hgu
  clear hr hgl hgu hb
  try simp only [Act.put, List.setIfInBounds_toArray, List.set_cons_zero, List.set_cons_succ]
  go_wp2_with (first | (refine opG_loadB rfl rfl rfl P.out Tryz.underlying54 rfl rfl ?_) | (refine opG_loadB rfl rfl rfl X.out Tryz.underlying58 rfl rfl ?_) | (refine op_loadId rfl rfl rfl S.out (HS.out) ?_) |  fail)
  go_ret
  exact ⟨rfl, HB.out⟩
theorem sgVerify (b h : Nat) (leaf : Int) (key sum : IdK) (hkl : key.length = 32) (hs : sum.length = 32) (w : World) (A B C : Option Addr) (n m k c d e : Nat) (shown hidden way : List IdK) (hA : IdRow w A shown) (hB : IdRow w B hidden) (hC : IdRow w C way) (hn : shown.length = n) (hm : hidden.length = m) (hk : way.length = k) (h1 : ∀ s ∈ shown, s.length = 32) (h2 : ∀ s ∈ hidden, s.length = 32) (h3 : ∀ s ∈ way, s.length = 32) (hf : fitsB b h leaf n m k = true) :
    Calls Tryz.prog 62 #[.agg #[.int .i64 (b : Int), .int .i64 (h : Int)], idV key, idV sum, .agg #[.int .i64 leaf, .slice A n c, .slice B m d, .slice C k e]] w fun e w' => e = .returned (.int .i64 (verErr b h key sum leaf shown hidden way)) ∧ Below w.heap.size w w' := by
  obtain ⟨hkt, _, _, _, _, _⟩ := fits_spec hf
  have RA := hid hA
  have RB := hid hB
  have RC := hid hC
  have HF := hid (fun w (hA : IdRow w A shown) (hB : IdRow w B hidden) (hC : IdRow w C way) => sgRoot b h leaf sum hs w A B C n m k c d e shown hidden way hA hB hC hn hm hk h1 h2 h3 hf)
  have LO := hid (rootOf_length sum leaf shown hidden way)
  have HKE := hid (fun w => ktKey b h (rootOf sum leaf shown hidden way) LO.out hkt w)
  have LK := hid (keyOf_length b h (rootOf sum leaf shown hidden way))
  have HV := hid (show verErr b h key sum leaf shown hidden way = if keyOf b h (rootOf sum leaf shown hidden way) == key then 0 else 9 from rfl)
  have HS := hid hs
  have HK := hid hkl
  rw [HV.out]
  clear HV hf hkt hA hB hC hn hm hk h1 h2 h3 hs hkl
  generalize rootOf sum leaf shown hidden way = ro at *
  generalize keyOf b h ro = k1 at *
  have hq1 := fun w => id_neq k1 key LK.out HK.out w
  have hq2 := id_guard .neq k1 key
  cases hc : (k1 == key)
  all_goals
    rw [hc] at hq1
    have HE := hid hc
    clear hc
  · go_enter Tryz.func62, Tryz.ntmps62
    have HB := hid (grow_refl w)
    apply wp_seq_k; intro _ _; apply wp_region_lit
    refine op_boxC (cs := #[.int .i64 (b : Int), .int .i64 (h : Int)]) rfl rfl rfl rfl ?_
    intro gp w1 hgl hgu hb hr
    have PL := hid (Nat.le_trans HB.out.size hgl)
    replace HB := hid (Grow.trans HB.out hb)
    replace RA := hid (RA.out.grow hb)
    replace RB := hid (RB.out.grow hb)
    replace RC := hid (RC.out.grow hb)
    have P := hid hr; have PU := hid hgu
    clear hr hgl hgu hb
    try simp only [Act.put, List.setIfInBounds_toArray, List.set_cons_zero, List.set_cons_succ]
    refine op_box (l := key) rfl rfl rfl ?_
    intro gk w2 hgl hgu hb hr
    have KL := hid (Nat.le_trans HB.out.size hgl)
    replace HB := hid (Grow.trans HB.out hb)
    replace RA := hid (RA.out.grow hb)
    replace RB := hid (RB.out.grow hb)
    replace RC := hid (RC.out.grow hb)
    replace P := hid (grow_block P.out hb)
    have K := hid hr; have KU := hid hgu
    clear hr hgl hgu hb
    try simp only [Act.put, List.setIfInBounds_toArray, List.set_cons_zero, List.set_cons_succ]
    refine op_box (l := sum) rfl rfl rfl ?_
    intro gs w3 hgl hgu hb hr
    have SL := hid (Nat.le_trans HB.out.size hgl)
    replace HB := hid (Grow.trans HB.out hb)
    replace RA := hid (RA.out.grow hb)
    replace RB := hid (RB.out.grow hb)
    replace RC := hid (RC.out.grow hb)
    replace P := hid (grow_block P.out hb)
    replace K := hid (grow_block K.out hb)
    have S := hid hr; have SU := hid hgu
    clear hr hgl hgu hb
    try simp only [Act.put, List.setIfInBounds_toArray, List.set_cons_zero, List.set_cons_succ]
    refine op_boxC (cs := #[.int .i64 leaf, .slice A n c, .slice B m d, .slice C k e]) rfl rfl rfl rfl ?_
    intro gx w4 hgl hgu hb hr
    have XL := hid (Nat.le_trans HB.out.size hgl)
    replace HB := hid (Grow.trans HB.out hb)
    replace RA := hid (RA.out.grow hb)
    replace RB := hid (RB.out.grow hb)
    replace RC := hid (RC.out.grow hb)
    replace P := hid (grow_block P.out hb)
    replace K := hid (grow_block K.out hb)
    replace S := hid (grow_block S.out hb)
    have X := hid hr; have XU := hid hgu
    clear hr hgl hgu hb
    try simp only [Act.put, List.setIfInBounds_toArray, List.set_cons_zero, List.set_cons_succ]
    go_wp2_with (first | (refine opG_loadB rfl rfl rfl P.out Tryz.underlying54 rfl rfl ?_) | (refine opG_loadB rfl rfl rfl X.out Tryz.underlying58 rfl rfl ?_) | (refine op_loadId rfl rfl rfl S.out (HS.out) ?_) |  fail)
    refine (HF.out _ RA.out RB.out RC.out).mono ?_
    rintro e w5 ⟨rfl, hb⟩
    replace HB := hid (Grow.trans HB.out hb)
    replace RA := hid (RA.out.grow hb)
    replace RB := hid (RB.out.grow hb)
    replace RC := hid (RC.out.grow hb)
    replace P := hid (grow_block P.out hb)
    replace K := hid (grow_block K.out hb)
    replace S := hid (grow_block S.out hb)
    replace X := hid (grow_block X.out hb)
    clear hb
    go_wp2_with (first | (refine opG_loadB rfl rfl rfl P.out Tryz.underlying54 rfl rfl ?_) | (refine opG_loadB rfl rfl rfl X.out Tryz.underlying58 rfl rfl ?_) | (refine op_loadId rfl rfl rfl S.out (HS.out) ?_) |  (refine op_allocstore (l := ro) rfl rfl rfl rfl rfl rfl (fun _ => rfl) ⟨fun _ => rfl, LO.out⟩ ?_))
    intro g9 w6 hgl hgu hb hr
    have H9L := hid (Nat.le_trans HB.out.size hgl)
    replace HB := hid (Grow.trans HB.out hb)
    replace RA := hid (RA.out.grow hb)
    replace RB := hid (RB.out.grow hb)
    replace RC := hid (RC.out.grow hb)
    replace P := hid (grow_block P.out hb)
    replace K := hid (grow_block K.out hb)
    replace S := hid (grow_block S.out hb)
    replace X := hid (grow_block X.out hb)
    have H9 := hid hr; have H9U := hid hgu
    clear hr hgl hgu hb
    try simp only [Act.put, List.setIfInBounds_toArray, List.set_cons_zero, List.set_cons_succ]
    go_wp2_with (first | (refine opG_loadB rfl rfl rfl P.out Tryz.underlying54 rfl rfl ?_) | (refine opG_loadB rfl rfl rfl X.out Tryz.underlying58 rfl rfl ?_) | (refine op_loadId rfl rfl rfl S.out (HS.out) ?_) | (refine op_loadId rfl rfl rfl H9.out (LO.out) ?_) |  fail)
    refine (HKE.out _).mono ?_
    rintro e w7 ⟨rfl, hb⟩
    replace HB := hid (Grow.trans HB.out hb)
    replace RA := hid (RA.out.grow hb)
    replace RB := hid (RB.out.grow hb)
    replace RC := hid (RC.out.grow hb)
    replace P := hid (grow_block P.out hb)
    replace K := hid (grow_block K.out hb)
    replace S := hid (grow_block S.out hb)
    replace X := hid (grow_block X.out hb)
    replace H9 := hid (grow_block H9.out hb)
    clear hb
    go_wp2_with (first | (refine opG_loadB rfl rfl rfl P.out Tryz.underlying54 rfl rfl ?_) | (refine opG_loadB rfl rfl rfl X.out Tryz.underlying58 rfl rfl ?_) | (refine op_loadId rfl rfl rfl S.out (HS.out) ?_) | (refine op_loadId rfl rfl rfl H9.out (LO.out) ?_) |  (refine op_allocstore (l := k1) rfl rfl rfl rfl rfl rfl (fun _ => rfl) ⟨fun _ => rfl, LK.out⟩ ?_))
    intro g11 w8 hgl hgu hb hr
    have H11L := hid (Nat.le_trans HB.out.size hgl)
    replace HB := hid (Grow.trans HB.out hb)
    replace RA := hid (RA.out.grow hb)
    replace RB := hid (RB.out.grow hb)
    replace RC := hid (RC.out.grow hb)
    replace P := hid (grow_block P.out hb)
    replace K := hid (grow_block K.out hb)
    replace S := hid (grow_block S.out hb)
    replace X := hid (grow_block X.out hb)
    replace H9 := hid (grow_block H9.out hb)
    have H11 := hid hr; have H11U := hid hgu
    clear hr hgl hgu hb
    try simp only [Act.put, List.setIfInBounds_toArray, List.set_cons_zero, List.set_cons_succ]
    go_wp2_with (first | (refine opG_loadB rfl rfl rfl P.out Tryz.underlying54 rfl rfl ?_) | (refine opG_loadB rfl rfl rfl X.out Tryz.underlying58 rfl rfl ?_) | (refine op_loadId rfl rfl rfl S.out (HS.out) ?_) | (refine op_loadId rfl rfl rfl H9.out (LO.out) ?_) | (refine op_loadId rfl rfl rfl H11.out (LK.out) ?_) | (refine op_loadId rfl rfl rfl K.out (HK.out) ?_) |  fail)
    go_ret
    exact ⟨rfl, HB.out⟩
  · go_enter Tryz.func62, Tryz.ntmps62
    have HB := hid (grow_refl w)
    apply wp_seq_k; intro _ _; apply wp_region_lit
    refine op_boxC (cs := #[.int .i64 (b : Int), .int .i64 (h : Int)]) rfl rfl rfl rfl ?_
    intro gp w9 hgl hgu hb hr
    have PL := hid (Nat.le_trans HB.out.size hgl)
    replace HB := hid (Grow.trans HB.out hb)
    replace RA := hid (RA.out.grow hb)
    replace RB := hid (RB.out.grow hb)
    replace RC := hid (RC.out.grow hb)
    have P := hid hr; have PU := hid hgu
    clear hr hgl hgu hb
    try simp only [Act.put, List.setIfInBounds_toArray, List.set_cons_zero, List.set_cons_succ]
    refine op_box (l := key) rfl rfl rfl ?_
    intro gk w10 hgl hgu hb hr
    have KL := hid (Nat.le_trans HB.out.size hgl)
    replace HB := hid (Grow.trans HB.out hb)
    replace RA := hid (RA.out.grow hb)
    replace RB := hid (RB.out.grow hb)
    replace RC := hid (RC.out.grow hb)
    replace P := hid (grow_block P.out hb)
    have K := hid hr; have KU := hid hgu
    clear hr hgl hgu hb
    try simp only [Act.put, List.setIfInBounds_toArray, List.set_cons_zero, List.set_cons_succ]
    refine op_box (l := sum) rfl rfl rfl ?_
    intro gs w11 hgl hgu hb hr
    have SL := hid (Nat.le_trans HB.out.size hgl)
    replace HB := hid (Grow.trans HB.out hb)
    replace RA := hid (RA.out.grow hb)
    replace RB := hid (RB.out.grow hb)
    replace RC := hid (RC.out.grow hb)
    replace P := hid (grow_block P.out hb)
    replace K := hid (grow_block K.out hb)
    have S := hid hr; have SU := hid hgu
    clear hr hgl hgu hb
    try simp only [Act.put, List.setIfInBounds_toArray, List.set_cons_zero, List.set_cons_succ]
    refine op_boxC (cs := #[.int .i64 leaf, .slice A n c, .slice B m d, .slice C k e]) rfl rfl rfl rfl ?_
    intro gx w12 hgl hgu hb hr
    have XL := hid (Nat.le_trans HB.out.size hgl)
    replace HB := hid (Grow.trans HB.out hb)
    replace RA := hid (RA.out.grow hb)
    replace RB := hid (RB.out.grow hb)
    replace RC := hid (RC.out.grow hb)
    replace P := hid (grow_block P.out hb)
    replace K := hid (grow_block K.out hb)
    replace S := hid (grow_block S.out hb)
    have X := hid hr; have XU := hid hgu
    clear hr hgl hgu hb
    try simp only [Act.put, List.setIfInBounds_toArray, List.set_cons_zero, List.set_cons_succ]
    go_wp2_with (first | (refine opG_loadB rfl rfl rfl P.out Tryz.underlying54 rfl rfl ?_) | (refine opG_loadB rfl rfl rfl X.out Tryz.underlying58 rfl rfl ?_) | (refine opG_loadB rfl rfl rfl P.out Tryz.underlying54 rfl rfl ?_) | (refine opG_loadB rfl rfl rfl X.out Tryz.underlying58 rfl rfl ?_) | (refine op_loadId rfl rfl rfl S.out (HS.out) ?_) | (refine op_loadId rfl rfl rfl K.out (HK.out) ?_) |  fail)
    refine (HF.out _ RA.out RB.out RC.out).mono ?_
    rintro e w13 ⟨rfl, hb⟩
    replace HB := hid (Grow.trans HB.out hb)
    replace RA := hid (RA.out.grow hb)
    replace RB := hid (RB.out.grow hb)
    replace RC := hid (RC.out.grow hb)
    replace P := hid (grow_block P.out hb)
    replace K := hid (grow_block K.out hb)
    replace S := hid (grow_block S.out hb)
    replace X := hid (grow_block X.out hb)
    clear hb
    go_wp2_with (first | (refine opG_loadB rfl rfl rfl P.out Tryz.underlying54 rfl rfl ?_) | (refine opG_loadB rfl rfl rfl X.out Tryz.underlying58 rfl rfl ?_) | (refine opG_loadB rfl rfl rfl P.out Tryz.underlying54 rfl rfl ?_) | (refine opG_loadB rfl rfl rfl X.out Tryz.underlying58 rfl rfl ?_) | (refine op_loadId rfl rfl rfl S.out (HS.out) ?_) | (refine op_loadId rfl rfl rfl K.out (HK.out) ?_) |  (refine op_allocstore (l := ro) rfl rfl rfl rfl rfl rfl (fun _ => rfl) ⟨fun _ => rfl, LO.out⟩ ?_))
    intro g9 w14 hgl hgu hb hr
    have H9L := hid (Nat.le_trans HB.out.size hgl)
    replace HB := hid (Grow.trans HB.out hb)
    replace RA := hid (RA.out.grow hb)
    replace RB := hid (RB.out.grow hb)
    replace RC := hid (RC.out.grow hb)
    replace P := hid (grow_block P.out hb)
    replace K := hid (grow_block K.out hb)
    replace S := hid (grow_block S.out hb)
    replace X := hid (grow_block X.out hb)
    have H9 := hid hr; have H9U := hid hgu
    clear hr hgl hgu hb
    try simp only [Act.put, List.setIfInBounds_toArray, List.set_cons_zero, List.set_cons_succ]
    go_wp2_with (first | (refine opG_loadB rfl rfl rfl P.out Tryz.underlying54 rfl rfl ?_) | (refine opG_loadB rfl rfl rfl X.out Tryz.underlying58 rfl rfl ?_) | (refine opG_loadB rfl rfl rfl P.out Tryz.underlying54 rfl rfl ?_) | (refine opG_loadB rfl rfl rfl X.out Tryz.underlying58 rfl rfl ?_) | (refine op_loadId rfl rfl rfl S.out (HS.out) ?_) | (refine op_loadId rfl rfl rfl H9.out (LO.out) ?_) | (refine op_loadId rfl rfl rfl K.out (HK.out) ?_) |  fail)
    refine (HKE.out _).mono ?_
    rintro e w15 ⟨rfl, hb⟩
    replace HB := hid (Grow.trans HB.out hb)
    replace RA := hid (RA.out.grow hb)
    replace RB := hid (RB.out.grow hb)
    replace RC := hid (RC.out.grow hb)
    replace P := hid (grow_block P.out hb)
    replace K := hid (grow_block K.out hb)
    replace S := hid (grow_block S.out hb)
    replace X := hid (grow_block X.out hb)
    replace H9 := hid (grow_block H9.out hb)
    clear hb
    go_wp2_with (first | (refine opG_loadB rfl rfl rfl P.out Tryz.underlying54 rfl rfl ?_) | (refine opG_loadB rfl rfl rfl X.out Tryz.underlying58 rfl rfl ?_) | (refine opG_loadB rfl rfl rfl P.out Tryz.underlying54 rfl rfl ?_) | (refine opG_loadB rfl rfl rfl X.out Tryz.underlying58 rfl rfl ?_) | (refine op_loadId rfl rfl rfl S.out (HS.out) ?_) | (refine op_loadId rfl rfl rfl H9.out (LO.out) ?_) | (refine op_loadId rfl rfl rfl K.out (HK.out) ?_) |  (refine op_allocstore (l := k1) rfl rfl rfl rfl rfl rfl (fun _ => rfl) ⟨fun _ => rfl, LK.out⟩ ?_))
    intro g11 w16 hgl hgu hb hr
    have H11L := hid (Nat.le_trans HB.out.size hgl)
    replace HB := hid (Grow.trans HB.out hb)
    replace RA := hid (RA.out.grow hb)
    replace RB := hid (RB.out.grow hb)
    replace RC := hid (RC.out.grow hb)
    replace P := hid (grow_block P.out hb)
    replace K := hid (grow_block K.out hb)
    replace S := hid (grow_block S.out hb)
    replace X := hid (grow_block X.out hb)
    replace H9 := hid (grow_block H9.out hb)
    have H11 := hid hr; have H11U := hid hgu
    clear hr hgl hgu hb
    try simp only [Act.put, List.setIfInBounds_toArray, List.set_cons_zero, List.set_cons_succ]
    go_wp2_with (first | (refine opG_loadB rfl rfl rfl P.out Tryz.underlying54 rfl rfl ?_) | (refine opG_loadB rfl rfl rfl X.out Tryz.underlying58 rfl rfl ?_) | (refine opG_loadB rfl rfl rfl P.out Tryz.underlying54 rfl rfl ?_) | (refine opG_loadB rfl rfl rfl X.out Tryz.underlying58 rfl rfl ?_) | (refine op_loadId rfl rfl rfl S.out (HS.out) ?_) | (refine op_loadId rfl rfl rfl H9.out (LO.out) ?_) | (refine op_loadId rfl rfl rfl H11.out (LK.out) ?_) | (refine op_loadId rfl rfl rfl K.out (HK.out) ?_) |  fail)
    go_ret
    exact ⟨rfl, HB.out⟩
theorem refKey8 (b h : Nat) (leaf : Int) (sum : IdK) (hs : sum.length = 32) (w : World) (A B C : Option Addr) (n m k c d e : Nat) (shown hidden way : List IdK) (hA : IdRow w A shown) (hB : IdRow w B hidden) (hC : IdRow w C way) (hn : shown.length = n) (hm : hidden.length = m) (hk : way.length = k) (h1 : ∀ s ∈ shown, s.length = 32) (h2 : ∀ s ∈ hidden, s.length = 32) (h3 : ∀ s ∈ way, s.length = 32) (hf : fitsB b h leaf n m k = true) :
    Calls Tryz.prog 34 #[.agg #[.int .i64 (b : Int), .int .i64 (h : Int)], idV sum, .agg #[.int .i64 leaf, .slice A n c, .slice B m d, .slice C k e]] w fun e w' => e = .returned (idV (keyOf b h (rootOf sum leaf shown hidden way))) ∧ Below w.heap.size w w' := by
  obtain ⟨hkt, f0, f1, f2, f3, f4⟩ := fits_spec hf
  obtain ⟨q1, q2, q3, q4⟩ := kt_bounds hkt
  have RA := hid hA
  have RB := hid hB
  have RC := hid hC
  have hok : pubOk shown hidden = true := by
    unfold pubOk
    rw [hn, hm, f2]
    simp only [ktB, Bool.and_eq_true] at hkt
    simp [hkt.1]
    omega
  have HRC := hid (fun w (hA : IdRow w A shown) (hB : IdRow w B hidden) => refRecover sum hs shown hidden h1 h2 A B n m c d hn hm (by omega) (by omega) w hA hB)
  have HRR := hid (show recRes sum shown hidden = chainOf ⟨#[108, 101, 97, 102]⟩ (pubRow sum shown hidden) by unfold recRes; rw [hok]; rfl)
  rw [← HRR.out] at HRC
  have LR := hid (recRes_length sum shown hidden)
  have HCL := hid (fun w (hC : IdRow w C way) => refClimbAll leaf leaf.toNat (by omega) (by omega) (recRes sum shown hidden) LR.out C k e way w hC hk h3 (by omega))
  have HRO := hid (show climbTo leaf.toNat (recRes sum shown hidden) way = rootOf sum leaf shown hidden way from rfl)
  have LO := hid (rootOf_length sum leaf shown hidden way)
  rw [HRO.out] at HCL
  have HKE := hid (fun w => refKey7 b h (rootOf sum leaf shown hidden way) LO.out (by omega) (by omega) w)
  have LK := hid (keyOf_length b h (rootOf sum leaf shown hidden way))
  have HS := hid hs
  generalize rootOf sum leaf shown hidden way = ro at *
  generalize keyOf b h ro = k1 at *
  generalize recRes sum shown hidden = rr at *
  clear hf hkt f0 f1 f2 f3 f4 q1 q2 q3 q4 hA hB hC hn hm hk h1 h2 h3 hs HRO HRR hok
  go_enter Tryz.func34, Tryz.ntmps34
  have HB := hid (grow_refl w)
  apply wp_seq_k; intro _ _; apply wp_region_lit
  refine op_boxC (cs := #[.int .i64 (b : Int), .int .i64 (h : Int)]) rfl rfl rfl rfl ?_
  intro gp w1 hgl hgu hb hr
  have PL := hid (Nat.le_trans HB.out.size hgl)
  replace HB := hid (Grow.trans HB.out hb)
  replace RA := hid (RA.out.grow hb)
  replace RB := hid (RB.out.grow hb)
  replace RC := hid (RC.out.grow hb)
  have P := hid hr; have PU := hid hgu
  clear hr hgl hgu hb
  try simp only [Act.put, List.setIfInBounds_toArray, List.set_cons_zero, List.set_cons_succ]
  refine op_box (l := sum) rfl rfl rfl ?_
  intro gs w2 hgl hgu hb hr
  have SL := hid (Nat.le_trans HB.out.size hgl)
  replace HB := hid (Grow.trans HB.out hb)
  replace RA := hid (RA.out.grow hb)
  replace RB := hid (RB.out.grow hb)
  replace RC := hid (RC.out.grow hb)
  replace P := hid (grow_block P.out hb)
  have S := hid hr; have SU := hid hgu
  clear hr hgl hgu hb
  try simp only [Act.put, List.setIfInBounds_toArray, List.set_cons_zero, List.set_cons_succ]
  refine op_boxC (cs := #[.int .i64 leaf, .slice A n c, .slice B m d, .slice C k e]) rfl rfl rfl rfl ?_
  intro gx w3 hgl hgu hb hr
  have XL := hid (Nat.le_trans HB.out.size hgl)
  replace HB := hid (Grow.trans HB.out hb)
  replace RA := hid (RA.out.grow hb)
  replace RB := hid (RB.out.grow hb)
  replace RC := hid (RC.out.grow hb)
  replace P := hid (grow_block P.out hb)
  replace S := hid (grow_block S.out hb)
  have X := hid hr; have XU := hid hgu
  clear hr hgl hgu hb
  try simp only [Act.put, List.setIfInBounds_toArray, List.set_cons_zero, List.set_cons_succ]
  refine op_alloc rfl rfl ?_
  intro gr w4 hgl hgu hb hr
  have HRL := hid (Nat.le_trans HB.out.size hgl)
  replace HB := hid (Grow.trans HB.out hb)
  replace RA := hid (RA.out.grow hb)
  replace RB := hid (RB.out.grow hb)
  replace RC := hid (RC.out.grow hb)
  replace P := hid (grow_block P.out hb)
  replace S := hid (grow_block S.out hb)
  replace X := hid (grow_block X.out hb)
  have HR := hid hr; have HRU := hid hgu
  clear hr hgl hgu hb
  try simp only [Act.put, List.setIfInBounds_toArray, List.set_cons_zero, List.set_cons_succ]
  refine wpList_nil ?_
  go_wp2_with fail
  (refine' wp_region_head 13 1 [_, _, _, _, _, _, _, _, _, _, _, _, _] rfl (by kernel_rfl) (by kernel_rfl) ?hreg1; case' hreg1 => simp only [List.take_succ_cons, List.take_zero, List.zip_cons_cons, List.zip_nil_right, List.drop_succ_cons, List.drop_zero, List.drop_nil])
  (refine' head_loadB rfl ?_ rfl rfl P.out Tryz.underlying54 rfl rfl ?_; (first | exact fun _ _ _ => trivial | (intro t ht w; cases ht; simp [upE])); try simp only [Act.put, List.setIfInBounds_toArray, List.set_cons_zero, List.set_cons_succ])
  (refine' head_val ?dw2 ?de2 ?dr2 ?dh2; (case' dw2 => rfl); (case' de2 => (first | exact fun _ _ _ => trivial | (intro t ht w; cases ht; simp [upE]))); (case' dr2 => (intro w' hw' _; go_simp; with_reducible rfl)); (case' dh2 => (try simp only [Act.put, List.setIfInBounds_toArray, List.set_cons_zero, List.set_cons_succ])))
  (refine' head_load1 rfl ?_ rfl rfl X.out rfl Tryz.underlying3 rfl ?_; (first | exact fun _ _ _ => trivial | (intro t ht w; cases ht; simp [upE])); try simp only [Act.put, List.setIfInBounds_toArray, List.set_cons_zero, List.set_cons_succ])
  (refine' head_loadId (x := _) rfl ?_ rfl rfl S.out (HS.out) ?_; (first | exact fun _ _ _ => trivial | (intro t ht w; cases ht; simp [upE])); try simp only [Act.put, List.setIfInBounds_toArray, List.set_cons_zero, List.set_cons_succ])
  (refine' head_val ?dw3 ?de3 ?dr3 ?dh3; (case' dw3 => rfl); (case' de3 => (first | exact fun _ _ _ => trivial | (intro t ht w; cases ht; simp [upE]))); (case' dr3 => (intro w' hw' _; go_simp; with_reducible rfl)); (case' dh3 => (try simp only [Act.put, List.setIfInBounds_toArray, List.set_cons_zero, List.set_cons_succ])))
  (refine' head_load1 rfl ?_ rfl rfl X.out rfl Tryz.underlying56 rfl ?_; (first | exact fun _ _ _ => trivial | (intro t ht w; cases ht; simp [upE])); try simp only [Act.put, List.setIfInBounds_toArray, List.set_cons_zero, List.set_cons_succ])
  (refine' head_val ?dw4 ?de4 ?dr4 ?dh4; (case' dw4 => rfl); (case' de4 => (first | exact fun _ _ _ => trivial | (intro t ht w; cases ht; simp [upE]))); (case' dr4 => (intro w' hw' _; go_simp; with_reducible rfl)); (case' dh4 => (try simp only [Act.put, List.setIfInBounds_toArray, List.set_cons_zero, List.set_cons_succ])))
  (refine' head_load1 rfl ?_ rfl rfl X.out rfl Tryz.underlying56 rfl ?_; (first | exact fun _ _ _ => trivial | (intro t ht w; cases ht; simp [upE])); try simp only [Act.put, List.setIfInBounds_toArray, List.set_cons_zero, List.set_cons_succ])
  (refine' head_call ?cw5 ?ce5 ?cr5 ?cc5 ?ch5; (case' cw5 => rfl); (case' ce5 => (first | exact fun _ _ _ => trivial | (intro t ht w; cases ht; simp [upE]))); (case' cr5 => (intro w'; go_simp; first | exact ⟨rfl, rfl⟩ | with_reducible rfl)); (case' cc5 => (intro w' hw' _; exact HRC.out w' (RA.out.grow hw') (RB.out.grow hw'))); (case' ch5 => (try simp only [Act.put, List.setIfInBounds_toArray, List.set_cons_zero, List.set_cons_succ])))
  (refine' head_val ?dw6 ?de6 ?dr6 ?dh6; (case' dw6 => rfl); (case' de6 => (first | exact fun _ _ _ => trivial | (intro t ht w; cases ht; simp [upE]))); (case' dr6 => (intro w' hw' _; go_simp; with_reducible rfl)); (case' dh6 => (try simp only [Act.put, List.setIfInBounds_toArray, List.set_cons_zero, List.set_cons_succ])))
  (refine' head_load1 rfl ?_ rfl rfl X.out rfl Tryz.underlying56 rfl ?_; (first | exact fun _ _ _ => trivial | (intro t ht w; cases ht; simp [upE])); try simp only [Act.put, List.setIfInBounds_toArray, List.set_cons_zero, List.set_cons_succ])
  (refine' head_call ?cw7 ?ce7 ?cr7 ?cc7 ?ch7; (case' cw7 => rfl); (case' ce7 => (first | exact fun _ _ _ => trivial | (intro t ht w; cases ht; simp [upE]))); (case' cr7 => (intro w'; go_simp; first | exact ⟨rfl, rfl⟩ | with_reducible rfl)); (case' cc7 => (intro w' hw' _; exact HCL.out w' (RC.out.grow hw'))); (case' ch7 => (try simp only [Act.put, List.setIfInBounds_toArray, List.set_cons_zero, List.set_cons_succ])))
  (refine' head_call ?cw8 ?ce8 ?cr8 ?cc8 ?ch8; (case' cw8 => rfl); (case' ce8 => (first | exact fun _ _ _ => trivial | (intro t ht w; cases ht; simp [upE]))); (case' cr8 => (intro w'; go_simp; first | exact ⟨rfl, rfl⟩ | with_reducible rfl)); (case' cc8 => (intro w' hw' _; exact HKE.out w')); (case' ch8 => (try simp only [Act.put, List.setIfInBounds_toArray, List.set_cons_zero, List.set_cons_succ])))
  refine head_nil ?_
  intro w5 hb _
  replace HB := hid (Grow.trans HB.out hb)
  replace RA := hid (RA.out.grow hb)
  replace RB := hid (RB.out.grow hb)
  replace RC := hid (RC.out.grow hb)
  replace P := hid (grow_block P.out hb)
  replace S := hid (grow_block S.out hb)
  replace X := hid (grow_block X.out hb)
  replace HR := hid (grow_block HR.out hb)
  clear hb
  go_wp2_with (first |  (refine op_buildId rfl rfl ?_) | (refine op_storeId (l := k1) rfl rfl rfl rfl rfl HR.out (by rfl) (LK.out) ?_))
  intro wz hz _ hbz
  have HZ := hid hz; have HBZ := hid (hbz _ _ HB.out HRL.out)
  clear hz hbz
  go_wp2_with fail
  refine bodyPost_ret (ret_id rfl rfl HZ.out (LK.out)) rfl ⟨?_, HBZ.out⟩
  rfl
end Go.Proofs.YtabkaflccaklhaaGreat
