/- lamport.Publics, lamport.Recover: contracts. -/
import Derived.Test.YtkibibgbmkejjaaQLam4
import Derived.Test.YtkibibgbmkejjaaQId9
set_option linter.unusedSimpArgs false
set_option linter.unusedVariables false
namespace Go.Proofs.Ytkibibgbmkejjaa
open Go.RowKit
open Go.Qk hiding rotr b4
set_option maxHeartbeats 1000000
set_option maxRecDepth 100000
def pubG (sum : List UInt8) (shown hidden : List (List UInt8)) (b s : Nat) : List UInt8 := if bitI sum b = (s : Int) then publicOf (shown.getD b []) else (if hidden.getD b [] = [] then zero8 32 else hidden.getD b [])
theorem pubG_length (sum : List UInt8) (shown hidden : List (List UInt8)) (hh : ∀ s ∈ hidden, s.length = 32) (b s : Nat) : (pubG sum shown hidden b s).length = 32 := by
  unfold pubG
  split
  · exact publicOf_length _
  · split
    · rfl
    · rename_i h
      by_cases hb : b < hidden.length
      · exact getD_mem_len hh hb
      · exact absurd (by simp [hb]) h
theorem pubG_hid (sum : List UInt8) (shown hidden : List (List UInt8)) (hh : ∀ s ∈ hidden, s.length = 32) (b s : Nat) (hb : b < hidden.length) (h : ¬ bitI sum b = (s : Int)) : pubG sum shown hidden b s = hidden.getD b [] := by
  have := getD_mem_len hh hb
  unfold pubG
  rw [if_neg h, if_neg]
  intro e
  rw [e] at this
  simp at this
theorem ent_pub1 : ∀ args w, (callFunc 116 args).run Try.prog w = .ok (.enter 116 args) w := fun _ _ => by kernel_rfl
theorem lamPub1 (sum : List UInt8) (hsum : sum.length = 32) (shown hidden : List (List UInt8)) (hsh : ∀ s ∈ shown, s.length = 32) (hhi : ∀ s ∈ hidden, s.length = 32) (A B : Option Addr) (c d : Nat) (b s : Nat) (hb : b < shown.length) (hb2 : b < hidden.length) (h256 : b < 256) (g3 g4 g5 : Nat) (t3 t4 t5 : TypeId) (w : World)
    (hA : IdRow w A shown) (hB : IdRow w B hidden) (h3 : w.heap[g3]? = some (.cells (u8s sum).toArray t3 (0, 0))) (h4 : w.heap[g4]? = some (.cells #[.slice A shown.length c] t4 (0, 0))) (h5 : w.heap[g5]? = some (.cells #[.slice B hidden.length d] t5 (0, 0))) :
    Calls Try.prog 116 #[.int .i64 (b : Int), .int .i64 (s : Int), .pointer (some ⟨g3, 0, none⟩), .pointer (some ⟨g4, 0, none⟩), .pointer (some ⟨g5, 0, none⟩)] w fun e w' => e = .returned (idV (pubG sum shown hidden b s)) ∧ Below w.heap.size w w' := by
  have H3 := hid h3
  have H4 := hid h4
  have H5 := hid h5
  have HA := hid hA
  have HBR := hid hB
  have HS := hid hsum
  have HTL := hid (pubG_length sum shown hidden hhi b s)
  have k0 : (0 : Int) ≤ (b : Int) := by omega
  have k1 : (b : Int) < (shown.length : Int) := by omega
  have k2 : (b : Int) < (hidden.length : Int) := by omega
  have HS1 := hid (getD_mem_len hsh hb)
  have HS2 := hid (getD_mem_len hhi hb2)
  have HG1 := hid (show bitI sum b = (s : Int) → pubG sum shown hidden b s = publicOf (shown.getD b []) from fun h => by unfold pubG; rw [if_pos h])
  have HG2 := hid (pubG_hid sum shown hidden hhi b s hb2)
  obtain ⟨ad, rfl, hc⟩ := hA.at_ b hb
  obtain ⟨bd, rfl, hd⟩ := hB.at_ b hb2
  clear h3 h4 h5 hA hB hsum hsh hhi hc hd
  generalize pubG sum shown hidden b s = R at *
  go_enter Try.func116, Try.ntmps116
  apply wp_seq_k; intro _ _; apply wp_region_lit
  refine op_alloc rfl rfl ?_
  intro gr W hgl hgu hb hr
  have HR := hid hr; have HB := hid hb; have HRL := hid hgl; have HRU := hid hgu
  clear hr hb hgl hgu
  try simp only [Act.put, List.setIfInBounds_toArray, List.set_cons_zero, List.set_cons_succ]
  replace H3 := hid (grow_block H3.out HB.out)
  replace H4 := hid (grow_block H4.out HB.out)
  replace H5 := hid (grow_block H5.out HB.out)
  replace HA := hid (HA.out.grow HB.out)
  replace HBR := hid (HBR.out.grow HB.out)
  refine wpList_nil ?_
  go_wp2_with (first | (refine op_loadId rfl rfl rfl H3.out (HS.out) ?_) |  fail)
  refine (idBit sum HS.out b h256 _).mono ?_
  rintro e w1 ⟨rfl, hb⟩
  replace HR := hid (grow_block HR.out hb)
  replace HB := hid (Grow.trans HB.out hb)
  replace H3 := hid (grow_block H3.out hb)
  replace H4 := hid (grow_block H4.out hb)
  replace H5 := hid (grow_block H5.out hb)
  replace HA := hid (HA.out.grow hb)
  replace HBR := hid (HBR.out.grow hb)
  clear hb
  obtain ⟨_, hx1, hc⟩ := HA.out.at_ b hb
  obtain rfl := Option.some.inj hx1
  obtain ⟨_, hx2, hd⟩ := HBR.out.at_ b hb2
  obtain rfl := Option.some.inj hx2
  have HC := hid hc
  have HD := hid hd
  have c4 := cell_box H4.out (grow_refl _)
  have c5 := cell_box H5.out (grow_refl _)
  clear hc hd hx1 hx2
  generalize shown.getD b [] = s1 at *
  generalize hidden.getD b [] = s2 at *
  by_cases he : bitI sum b = (s : Int)
  · have t1 : (bitI sum b == (s : Int)) = true := by simpa using he
    have HE := hid (HG1.out he)
    clear he HG1 HG2
    go_wp2_with (first | (refine op_loadAt (l := s1) rfl rfl rfl HC.out HS1.out ?_) | (refine op_loadId rfl rfl rfl H3.out (HS.out) ?_) |  fail)
    clear c4 c5 HC HD
    refine (lamPublic s1 HS1.out _).mono ?_
    rintro e w2 ⟨rfl, hb⟩
    replace HR := hid (grow_block HR.out hb)
    replace HB := hid (Grow.trans HB.out hb)
    replace H3 := hid (grow_block H3.out hb)
    replace H4 := hid (grow_block H4.out hb)
    replace H5 := hid (grow_block H5.out hb)
    replace HA := hid (HA.out.grow hb)
    replace HBR := hid (HBR.out.grow hb)
    clear hb
    rw [← HE.out]
    go_wp2_with (first | (refine op_loadId rfl rfl rfl H3.out (HS.out) ?_) |  (refine op_buildId rfl rfl ?_) | (refine op_storeId (l := R) rfl rfl rfl rfl rfl HR.out (by rfl) (HTL.out) ?_))
    intro wz hz _ hbz
    have HZ := hid hz; have HBZ := hid (hbz _ _ HB.out HRL.out)
    clear hz hbz
    go_wp2_with fail
    refine bodyPost_ret (ret_id rfl rfl HZ.out (HTL.out)) rfl ⟨?_, HBZ.out⟩
    rfl
  · have t1 : (bitI sum b == (s : Int)) = false := by simpa using he
    have HE := hid (HG2.out he)
    rw [← HE.out] at HD HS2
    clear he HG1 HG2
    go_wp2_with (first | (refine op_loadAt (l := R) rfl rfl rfl HD.out HTL.out ?_) | (refine op_loadId rfl rfl rfl H3.out (HS.out) ?_) |  (refine op_buildId rfl rfl ?_) | (refine op_storeId (l := R) rfl rfl rfl rfl rfl HR.out (by rfl) (HTL.out) ?_))
    intro wz hz _ hbz
    have HZ := hid hz; have HBZ := hid (hbz _ _ HB.out HRL.out)
    clear hz hbz
    go_wp2_with fail
    refine bodyPost_ret (ret_id rfl rfl HZ.out (HTL.out)) rfl ⟨?_, HBZ.out⟩
    rfl
def pubRow (sum : List UInt8) (shown hidden : List (List UInt8)) : List (List UInt8) := bothRow (pubG sum shown hidden) shown.length
def pubOk (shown hidden : List (List UInt8)) : Bool := decide (shown.length = hidden.length) && rightB (shown.length : Int)
def RetIdsE (B : Nat) (w : World) (xs : List (List UInt8)) (err : Int) (e : Ending) (w' : World) : Prop := ∃ v, e = .returned (.tuple #[v, .int .i64 err]) ∧ OwnIds 23 B w' v xs ∧ Below w.heap.size w w'
def pubRes (sum : List UInt8) (shown hidden : List (List UInt8)) : List (List UInt8) := if pubOk shown hidden then pubRow sum shown hidden else []
def pubErr (shown hidden : List (List UInt8)) : Int := if pubOk shown hidden then 0 else 3
theorem pub_right {n : Nat} (h : rightB (n : Int) = true) : 8 ≤ n ∧ n ≤ 256 := by simp [rightB] at h; omega
theorem lamPublics (sum : List UInt8) (hsum : sum.length = 32) (shown hidden : List (List UInt8)) (hsh : ∀ s ∈ shown, s.length = 32) (hhi : ∀ s ∈ hidden, s.length = 32) (A B : Option Addr) (n m c d : Nat) (hn : shown.length = n) (hm : hidden.length = m) (w : World) (hA : IdRow w A shown) (hB : IdRow w B hidden) :
    Calls Try.prog 56 #[idV sum, .slice A n c, .slice B m d] w (RetIdsE w.heap.size w (pubRes sum shown hidden) (pubErr shown hidden)) := by
  subst hn hm
  have HA := hid hA
  have HBR := hid hB
  have HS := hid hsum
  have HSH := hid hsh
  have HHI := hid hhi
  clear hA hB hsum hsh hhi
  by_cases hne : shown.length = hidden.length
  · have HNE := hid hne
    have t1 : ((shown.length : Int) != (hidden.length : Int)) = false := by simp; omega
    clear hne
    by_cases hr : rightB (shown.length : Int) = true
    · have HRR := hid hr
      have hlim := pub_right hr
      have hok : pubOk shown hidden = true := by unfold pubOk; rw [hr, decide_eq_true HNE.out]; rfl
      have HP1 := hid (show pubRes sum shown hidden = pubRow sum shown hidden by simp [pubRes, hok])
      have HP2 := hid (show pubErr shown hidden = 0 by simp [pubErr, hok])
      clear hok
      clear hr
      rw [HP1.out, HP2.out]
      go_enter Try.func56, Try.ntmps56
      have HB := hid (grow_refl w)
      apply wp_seq_k; intro _ _; apply wp_region_lit
      refine op_box (l := sum) rfl rfl rfl ?_
      intro g3 w1 hgl hgu hb hr
      have XL := hid (Nat.le_trans HB.out.size hgl)
      replace HB := hid (Grow.trans HB.out hb)
      replace HA := hid (HA.out.grow hb)
      replace HBR := hid (HBR.out.grow hb)
      have X := hid hr; have XU := hid hgu
      clear hr hgl hgu hb
      try simp only [Act.put, List.setIfInBounds_toArray, List.set_cons_zero, List.set_cons_succ]
      refine op_box1 (v := .slice A shown.length c) rfl rfl rfl rfl ?_
      intro g4 W4 _ _ hb h4
      have H4 := hid h4
      replace HB := hid (Grow.trans HB.out hb)
      replace HA := hid (HA.out.grow hb)
      replace HBR := hid (HBR.out.grow hb)
      replace X := hid (grow_block X.out hb)
      clear hb
      clear h4
      simp only [Act.put, List.setIfInBounds_toArray, List.set_cons_zero, List.set_cons_succ]
      refine op_box1 (v := .slice B hidden.length d) rfl rfl rfl rfl ?_
      intro g5 W5 _ _ hb h5
      have H5 := hid h5
      replace HB := hid (Grow.trans HB.out hb)
      replace HA := hid (HA.out.grow hb)
      replace HBR := hid (HBR.out.grow hb)
      replace X := hid (grow_block X.out hb)
      replace H4 := hid (grow_block H4.out hb)
      clear hb
      clear h5
      simp only [Act.put, List.setIfInBounds_toArray, List.set_cons_zero, List.set_cons_succ]
      have c4 := cell_box H4.out (grow_refl _)
      have c5 := cell_box H5.out (grow_refl _)
      go_wp2_with fail
      clear c4 c5
      refine (lamRight shown.length _).mono ?_
      rintro e w2 ⟨rfl, hb⟩
      replace HB := hid (Grow.trans HB.out hb)
      replace HA := hid (HA.out.grow hb)
      replace HBR := hid (HBR.out.grow hb)
      replace X := hid (grow_block X.out hb)
      replace H4 := hid (grow_block H4.out hb)
      replace H5 := hid (grow_block H5.out hb)
      clear hb
      rw [HRR.out]
      have c4 := cell_box H4.out (grow_refl _)
      go_wp2_with fail
      clear c4 t1
      have HF0 := hid (show ∀ (b : Nat) w', b < shown.length → Grow _ w' → Calls Try.prog 116 (#[.int .i64 (b : Int), .int .i64 0] ++ #[.pointer (some ⟨g3, 0, none⟩), .pointer (some ⟨g4, 0, none⟩), .pointer (some ⟨g5, 0, none⟩)]) w' fun e w'' => e = .returned (idV (pubG sum shown hidden b 0)) ∧ Below w'.heap.size w' w'' from fun b w' hb hg => by
        rw [show (#[.int .i64 (b : Int), .int .i64 0] ++ #[.pointer (some ⟨g3, 0, none⟩), .pointer (some ⟨g4, 0, none⟩), .pointer (some ⟨g5, 0, none⟩)] : Array Value) = #[.int .i64 (b : Int), .int .i64 ((0 : Nat) : Int), .pointer (some ⟨g3, 0, none⟩), .pointer (some ⟨g4, 0, none⟩), .pointer (some ⟨g5, 0, none⟩)] by simp]
        exact lamPub1 sum HS.out shown hidden HSH.out HHI.out A B c d b 0 hb (by have := HNE.out; omega) (by omega) g3 g4 g5 _ _ _ w' (HA.out.grow hg) (HBR.out.grow hg) (grow_block X.out hg) (grow_block H4.out hg) (grow_block H5.out hg))
      have HF1 := hid (show ∀ (b : Nat) w', b < shown.length → Grow _ w' → Calls Try.prog 116 (#[.int .i64 (b : Int), .int .i64 1] ++ #[.pointer (some ⟨g3, 0, none⟩), .pointer (some ⟨g4, 0, none⟩), .pointer (some ⟨g5, 0, none⟩)]) w' fun e w'' => e = .returned (idV (pubG sum shown hidden b 1)) ∧ Below w'.heap.size w' w'' from fun b w' hb hg => by
        rw [show (#[.int .i64 (b : Int), .int .i64 1] ++ #[.pointer (some ⟨g3, 0, none⟩), .pointer (some ⟨g4, 0, none⟩), .pointer (some ⟨g5, 0, none⟩)] : Array Value) = #[.int .i64 (b : Int), .int .i64 ((1 : Nat) : Int), .pointer (some ⟨g3, 0, none⟩), .pointer (some ⟨g4, 0, none⟩), .pointer (some ⟨g5, 0, none⟩)] by simp]
        exact lamPub1 sum HS.out shown hidden HSH.out HHI.out A B c d b 1 hb (by have := HNE.out; omega) (by omega) g3 g4 g5 _ _ _ w' (HA.out.grow hg) (HBR.out.grow hg) (grow_block X.out hg) (grow_block H4.out hg) (grow_block H5.out hg))
      have HZ := hid HB.out.size
      refine (lamBoth shown.length (by omega) _ _ (pubG sum shown hidden) (pubG_length sum shown hidden HHI.out) _ ent_pub1 HF0.out HF1.out).mono ?_
      rintro e w9 ⟨v, rfl, ho, hb⟩
      have HO := hid (ho.base HZ.out)
      have HB9 := hid (Grow.trans HB.out hb)
      clear ho hb HF0 HF1
      go_wp2_with fail
      go_ret2
      exact ⟨v, rfl, HO.out, HB9.out⟩
    · have HRR := hid (show rightB (shown.length : Int) = false by simpa using hr)
      have HP1 := hid (show pubRes sum shown hidden = [] by simp [pubRes, pubOk, HRR.out])
      have HP2 := hid (show pubErr shown hidden = 3 by simp [pubErr, pubOk, HRR.out])
      clear hr
      rw [HP1.out, HP2.out]
      go_enter Try.func56, Try.ntmps56
      have HB := hid (grow_refl w)
      apply wp_seq_k; intro _ _; apply wp_region_lit
      refine op_box (l := sum) rfl rfl rfl ?_
      intro g3 w3 hgl hgu hb hr
      have XL := hid (Nat.le_trans HB.out.size hgl)
      replace HB := hid (Grow.trans HB.out hb)
      have X := hid hr; have XU := hid hgu
      clear hr hgl hgu hb
      try simp only [Act.put, List.setIfInBounds_toArray, List.set_cons_zero, List.set_cons_succ]
      refine op_box1 (v := .slice A shown.length c) rfl rfl rfl rfl ?_
      intro g4 W4 _ _ hb h4
      have H4 := hid h4
      replace HB := hid (Grow.trans HB.out hb)
      replace X := hid (grow_block X.out hb)
      clear hb
      clear h4
      simp only [Act.put, List.setIfInBounds_toArray, List.set_cons_zero, List.set_cons_succ]
      refine op_box1 (v := .slice B hidden.length d) rfl rfl rfl rfl ?_
      intro g5 W5 _ _ hb h5
      have H5 := hid h5
      replace HB := hid (Grow.trans HB.out hb)
      replace X := hid (grow_block X.out hb)
      replace H4 := hid (grow_block H4.out hb)
      clear hb
      clear h5
      simp only [Act.put, List.setIfInBounds_toArray, List.set_cons_zero, List.set_cons_succ]
      have c4 := cell_box H4.out (grow_refl _)
      have c5 := cell_box H5.out (grow_refl _)
      go_wp2_with fail
      clear c4 c5
      refine (lamRight shown.length _).mono ?_
      rintro e w4 ⟨rfl, hb⟩
      replace HB := hid (Grow.trans HB.out hb)
      replace X := hid (grow_block X.out hb)
      replace H4 := hid (grow_block H4.out hb)
      replace H5 := hid (grow_block H5.out hb)
      clear hb
      rw [HRR.out]
      go_wp2_with fail
      go_ret2
      exact ⟨_, rfl, ⟨World.ownsRow_nil _ _ _ _, fun _ h => by cases h⟩, HB.out⟩
  · have t1 : ((shown.length : Int) != (hidden.length : Int)) = true := by simp; omega
    have HP1 := hid (show pubRes sum shown hidden = [] by simp [pubRes, pubOk, hne])
    have HP2 := hid (show pubErr shown hidden = 3 by simp [pubErr, pubOk, hne])
    clear hne
    rw [HP1.out, HP2.out]
    go_enter Try.func56, Try.ntmps56
    have HB := hid (grow_refl w)
    apply wp_seq_k; intro _ _; apply wp_region_lit
    refine op_box (l := sum) rfl rfl rfl ?_
    intro g3 w5 hgl hgu hb hr
    have XL := hid (Nat.le_trans HB.out.size hgl)
    replace HB := hid (Grow.trans HB.out hb)
    have X := hid hr; have XU := hid hgu
    clear hr hgl hgu hb
    try simp only [Act.put, List.setIfInBounds_toArray, List.set_cons_zero, List.set_cons_succ]
    refine op_box1 (v := .slice A shown.length c) rfl rfl rfl rfl ?_
    intro g4 W4 _ _ hb h4
    have H4 := hid h4
    replace HB := hid (Grow.trans HB.out hb)
    replace X := hid (grow_block X.out hb)
    clear hb
    clear h4
    simp only [Act.put, List.setIfInBounds_toArray, List.set_cons_zero, List.set_cons_succ]
    refine op_box1 (v := .slice B hidden.length d) rfl rfl rfl rfl ?_
    intro g5 W5 _ _ hb h5
    have H5 := hid h5
    replace HB := hid (Grow.trans HB.out hb)
    replace X := hid (grow_block X.out hb)
    replace H4 := hid (grow_block H4.out hb)
    clear hb
    clear h5
    simp only [Act.put, List.setIfInBounds_toArray, List.set_cons_zero, List.set_cons_succ]
    have c4 := cell_box H4.out (grow_refl _)
    have c5 := cell_box H5.out (grow_refl _)
    go_wp2_with fail
    go_ret2
    exact ⟨_, rfl, ⟨World.ownsRow_nil _ _ _ _, fun _ h => by cases h⟩, HB.out⟩
def recRes (sum : List UInt8) (shown hidden : List (List UInt8)) : List UInt8 := if pubOk shown hidden then chainOf ⟨#[108, 101, 97, 102]⟩ (pubRow sum shown hidden) else zero8 32
theorem recRes_length (sum : List UInt8) (shown hidden : List (List UInt8)) : (recRes sum shown hidden).length = 32 := by unfold recRes; split; exact chainOf_length _ _; rfl
theorem lamRecover (sum : List UInt8) (hsum : sum.length = 32) (shown hidden : List (List UInt8)) (hsh : ∀ s ∈ shown, s.length = 32) (hhi : ∀ s ∈ hidden, s.length = 32) (A B : Option Addr) (n m c d : Nat) (hn : shown.length = n) (hm : hidden.length = m) (w : World) (hA : IdRow w A shown) (hB : IdRow w B hidden) :
    Calls Try.prog 57 #[idV sum, .slice A n c, .slice B m d] w fun e w' => e = .returned (.tuple #[idV (recRes sum shown hidden), .int .i64 (pubErr shown hidden)]) ∧ Below w.heap.size w w' := by
  have HA := hid hA
  have HBR := hid hB
  have HS := hid hsum
  have HTL := hid (recRes_length sum shown hidden)
  clear hA hB hsum
  cases hok : pubOk shown hidden with
  | true =>
    have hlim : shown.length ≤ 256 := by simp [pubOk] at hok; exact (pub_right hok.2).2
    have HP1 := hid (show pubRes sum shown hidden = pubRow sum shown hidden by simp [pubRes, hok])
    have HP2 := hid (show pubErr shown hidden = 0 by simp [pubErr, hok])
    have HP3 := hid (show recRes sum shown hidden = chainOf ⟨#[108, 101, 97, 102]⟩ (pubRow sum shown hidden) by simp [recRes, hok])
    have HLR := hid (show (pubRow sum shown hidden).length ≤ 1000000 by rw [pubRow, bothRow_length]; omega)
    clear hok hlim
    go_enter Try.func57, Try.ntmps57
    have HB := hid (grow_refl w)
    apply wp_seq_k; intro _ _; apply wp_region_lit
    refine op_box (l := sum) rfl rfl rfl ?_
    intro g3 w1 hgl hgu hb hr
    have XL := hid (Nat.le_trans HB.out.size hgl)
    replace HB := hid (Grow.trans HB.out hb)
    replace HA := hid (HA.out.grow hb)
    replace HBR := hid (HBR.out.grow hb)
    have X := hid hr; have XU := hid hgu
    clear hr hgl hgu hb
    try simp only [Act.put, List.setIfInBounds_toArray, List.set_cons_zero, List.set_cons_succ]
    refine op_alloc rfl rfl ?_
    intro gr w2 hgl hgu hb hr
    have HRL := hid (Nat.le_trans HB.out.size hgl)
    replace HB := hid (Grow.trans HB.out hb)
    replace HA := hid (HA.out.grow hb)
    replace HBR := hid (HBR.out.grow hb)
    replace X := hid (grow_block X.out hb)
    have HR := hid hr; have HRU := hid hgu
    clear hr hgl hgu hb
    try simp only [Act.put, List.setIfInBounds_toArray, List.set_cons_zero, List.set_cons_succ]
    go_wp2_with (first | (refine op_loadId rfl rfl rfl X.out (HS.out) ?_) |  fail)
    refine (lamPublics sum HS.out shown hidden hsh hhi A B n m c d hn hm _ HA.out HBR.out).mono ?_
    rintro e w9 ⟨v, rfl, ho, hb⟩
    replace HB := hid (Grow.trans HB.out hb)
    replace HA := hid (HA.out.grow hb)
    replace HBR := hid (HBR.out.grow hb)
    replace X := hid (grow_block X.out hb)
    replace HR := hid (grow_block HR.out hb)
    clear hb
    obtain ⟨⟨A5, c5', rfl, hrow⟩, h32⟩ := ho.sl
    rw [HP1.out] at hrow h32
    rw [HP1.out, HP2.out]
    have HO := hid hrow
    have H32 := hid h32
    clear ho hrow h32
    go_wp2_with fail
    refine (tagChain ⟨#[108, 101, 97, 102]⟩ (by decide) A5 _ _ (pubRow sum shown hidden) _ HO.out rfl H32.out HLR.out).mono ?_
    rintro e w3 ⟨rfl, hb⟩
    replace HB := hid (Grow.trans HB.out hb)
    replace HA := hid (HA.out.grow hb)
    replace HBR := hid (HBR.out.grow hb)
    replace X := hid (grow_block X.out hb)
    replace HR := hid (grow_block HR.out hb)
    replace HO := hid (HO.out.grow hb)
    clear hb
    rw [← HP3.out]
    go_wp2_with (first | (refine op_loadId rfl rfl rfl X.out (HS.out) ?_) |  (refine op_buildId rfl rfl ?_) | (refine op_storeId (l := recRes sum shown hidden) rfl rfl rfl rfl rfl HR.out (by rfl) (HTL.out) ?_))
    intro wz hz _ hbz
    have HZ := hid hz; have HBZ := hid (hbz _ _ HB.out HRL.out)
    clear hz hbz
    go_wp2_with fail
    refine bodyPost_ret (ret_idt rfl rfl HZ.out (HTL.out)) rfl ⟨?_, HBZ.out⟩
    rw [HP2.out]
    rfl
  | false =>
    have HP2 := hid (show pubErr shown hidden = 3 by simp [pubErr, hok])
    have HP3 := hid (show recRes sum shown hidden = zero8 32 by simp [recRes, hok])
    clear hok
    go_enter Try.func57, Try.ntmps57
    have HB := hid (grow_refl w)
    apply wp_seq_k; intro _ _; apply wp_region_lit
    refine op_box (l := sum) rfl rfl rfl ?_
    intro g3 w4 hgl hgu hb hr
    have XL := hid (Nat.le_trans HB.out.size hgl)
    replace HB := hid (Grow.trans HB.out hb)
    replace HA := hid (HA.out.grow hb)
    replace HBR := hid (HBR.out.grow hb)
    have X := hid hr; have XU := hid hgu
    clear hr hgl hgu hb
    try simp only [Act.put, List.setIfInBounds_toArray, List.set_cons_zero, List.set_cons_succ]
    refine op_alloc rfl rfl ?_
    intro gr w5 hgl hgu hb hr
    have HRL := hid (Nat.le_trans HB.out.size hgl)
    replace HB := hid (Grow.trans HB.out hb)
    replace HA := hid (HA.out.grow hb)
    replace HBR := hid (HBR.out.grow hb)
    replace X := hid (grow_block X.out hb)
    have HR := hid hr; have HRU := hid hgu
    clear hr hgl hgu hb
    try simp only [Act.put, List.setIfInBounds_toArray, List.set_cons_zero, List.set_cons_succ]
    go_wp2_with (first | (refine op_loadId rfl rfl rfl X.out (HS.out) ?_) |  fail)
    refine (lamPublics sum HS.out shown hidden hsh hhi A B n m c d hn hm _ HA.out HBR.out).mono ?_
    rintro e w9 ⟨v, rfl, ho, hb⟩
    replace HB := hid (Grow.trans HB.out hb)
    replace HA := hid (HA.out.grow hb)
    replace HBR := hid (HBR.out.grow hb)
    replace X := hid (grow_block X.out hb)
    replace HR := hid (grow_block HR.out hb)
    clear hb
    clear ho
    rw [HP2.out]
    go_wp2_with (first | (refine op_loadId rfl rfl rfl X.out (HS.out) ?_) |  (refine op_buildId rfl rfl ?_) | (refine op_storeId (l := zero8 32) rfl rfl rfl rfl rfl HR.out (by rfl) (rfl) ?_))
    intro wz hz _ hbz
    have HZ := hid hz; have HBZ := hid (hbz _ _ HB.out HRL.out)
    clear hz hbz
    go_wp2_with fail
    refine bodyPost_ret (ret_idt rfl rfl HZ.out (rfl)) rfl ⟨?_, HBZ.out⟩
    rw [HP3.out, HP2.out]
    rfl
end Go.Proofs.Ytkibibgbmkejjaa
