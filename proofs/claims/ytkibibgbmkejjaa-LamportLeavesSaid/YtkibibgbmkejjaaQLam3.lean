/- lamport: a leaf's sum, its reference: contracts. -/
import Derived.Test.YtkibibgbmkejjaaQLam1
set_option linter.unusedSimpArgs false
set_option linter.unusedVariables false
namespace Go.Proofs.Ytkibibgbmkejjaa
open Go.RowKit
open Go.Qk hiding rotr b4
set_option maxHeartbeats 1000000
set_option maxRecDepth 100000
theorem two32 {a b : List UInt8} (ha : a.length = 32) (hb : b.length = 32) : ∀ s ∈ [a, b], s.length = 32 := by
  intro s hs
  simp at hs
  rcases hs with rfl | rfl
  · exact ha
  · exact hb
theorem one32 {a : List UInt8} (ha : a.length = 32) : ∀ s ∈ [a], s.length = 32 := by
  intro s hs
  simp at hs
  rw [hs, ha]
def RetIds (B : Nat) (w : World) (xs : List (List UInt8)) (e : Ending) (w' : World) : Prop := ∃ v, e = .returned v ∧ OwnIds 23 B w' v xs ∧ Below w.heap.size w w'
def bothRow (g : Nat → Nat → List UInt8) (n : Nat) : List (List UInt8) := (List.range n).flatMap fun b => [g b 0, g b 1]
theorem bothRow_succ (g : Nat → Nat → List UInt8) (n : Nat) : bothRow g (n + 1) = bothRow g n ++ [g n 0, g n 1] := by simp [bothRow, List.range_succ]
theorem bothRow_length (g : Nat → Nat → List UInt8) (n : Nat) : (bothRow g n).length = 2 * n := by
  induction n with
  | zero => rfl
  | succ n ih => rw [bothRow_succ, List.length_append, ih]; simp; omega
theorem bothRow_32 (g : Nat → Nat → List UInt8) (hg : ∀ b s, (g b s).length = 32) (n : Nat) : ∀ s ∈ bothRow g n, s.length = 32 := by
  intro s hs
  obtain ⟨b, _, hb⟩ := List.mem_flatMap.1 hs
  simp at hb
  rcases hb with rfl | rfl <;> exact hg _ _
theorem lamBoth (n : Nat) (hn : n ≤ 1000) (f : FuncId) (cap : Array Value) (g : Nat → Nat → List UInt8) (hg : ∀ b s, (g b s).length = 32) (w : World) (hent : ∀ args w, (callFunc f args).run Try.prog w = .ok (.enter f args) w)
    (hf0 : ∀ (b : Nat) w', b < n → Grow w w' → Calls Try.prog f (#[.int .i64 (b : Int), .int .i64 0] ++ cap) w' fun e w'' => e = .returned (idV (g b 0)) ∧ Below w'.heap.size w' w'')
    (hf1 : ∀ (b : Nat) w', b < n → Grow w w' → Calls Try.prog f (#[.int .i64 (b : Int), .int .i64 1] ++ cap) w' fun e w'' => e = .returned (idV (g b 1)) ∧ Below w'.heap.size w' w'') :
    Calls Try.prog 114 #[.int .i64 n, .func (.func f) #[] cap] w (RetIds w.heap.size w (bothRow g n)) := by
  have HE := hid hent
  have HF0 := hid hf0
  have HF1 := hid hf1
  have H32 := hid hg
  clear hent hf0 hf1 hg
  go_enter Try.func114, Try.ntmps114
  have HB := hid (grow_refl w)
  go_wp2_with (refine op_makeIds (c := 2 * n) rfl rfl (by simp [Act.eval]) (by omega) ?_)
  intro v0 W0 hown hg0
  have HO := hid hown
  have HG := hid hg0
  clear hown hg0
  go_wp2_with fail
  go_loopg [5, 11] (n + 1) (fun q v i wr => ∃ k : Nat, k ≤ n ∧ q = n + 1 - k ∧ i = .int .i64 k ∧ Hid (OwnIds 23 w.heap.size wr v (bothRow g k)) ∧ Hid (Grow w wr))
  case atStart => exact ⟨0, by omega, rfl, rfl, HO, HG⟩
  case round =>
    clear HO HG HB
    obtain ⟨k, hk, hq, rfl, HO, HG⟩ := hrel
    by_cases hlt : k < n
    · have k1 : (k : Int) < (n : Int) := by omega
      go_wp2_with (refine op_callFn (f := f) (cap := cap) (u1 := .int .i64 (k : Int)) (u2 := .int .i64 0) (v := idV (g k 0)) rfl rfl rfl rfl rfl HE.out (HF0.out k _ hlt HG.out) ?_)
      intro w1 hb
      have HO1 := hid (HO.out.grow hb)
      have HG1 := hid (Grow.trans HG.out hb)
      clear hb HO HG
      go_wp2_with (refine op_callFn (f := f) (cap := cap) (u1 := .int .i64 (k : Int)) (u2 := .int .i64 1) (v := idV (g k 1)) rfl rfl rfl rfl rfl HE.out (HF1.out k _ hlt HG1.out) ?_)
      intro w2 hb
      have HO2 := hid (HO1.out.grow hb)
      have HG2 := hid (Grow.trans HG1.out hb)
      clear hb HO1 HG1
      go_wp2_with (refine op_appIds2 (w0 := w) (l1 := g k 0) (l2 := g k 1) rfl rfl rfl rfl rfl rfl rfl (fun _ => rfl) (fun _ => rfl) (H32.out _ _) (H32.out _ _) HO2.out HG2.out HG2.out.size (by rw [bothRow_length]; omega) ?_)
      intro u v' w3 hown hb3 hs3
      rw [← bothRow_succ] at hown
      have HO3 := hid hown
      have HG3 := hid hb3
      clear hown hb3 hs3
      go_wp2
      go_roundg (n + 1 - (k + 1))
      case rel => exact ⟨k + 1, by omega, rfl, by go_num, HO3, HG3⟩
      case measure => omega
    · obtain rfl : k = n := by omega
      go_wp2_with fail
      go_ret
      exact ⟨_, rfl, HO.out, HG.out⟩
def leafPub (seed : ByteArray) (leaf : Int) (b s : Nat) : List UInt8 := publicOf (secretOf seed leaf b s)
theorem leafPub_length (seed : ByteArray) (leaf : Int) (b s : Nat) : (leafPub seed leaf b s).length = 32 := publicOf_length _
/-- A leaf's sum. -/
def leafOf (seed : ByteArray) (leaf : Int) (n : Nat) : List UInt8 := chainOf ⟨#[108, 101, 97, 102]⟩ (bothRow (leafPub seed leaf) n)
theorem leafOf_length (seed : ByteArray) (leaf : Int) (n : Nat) : (leafOf seed leaf n).length = 32 := chainOf_length _ _
theorem chain_leaf (l : List (List UInt8)) : chainOf ⟨#[108, 101, 97, 102]⟩ l = tagSum ⟨#[108, 101, 97, 102]⟩ [bs l.flatten] := by unfold chainOf; rw [cutName_short _ (by decide)]
theorem ent_leaf1 : ∀ args w, (callFunc 115 args).run Try.prog w = .ok (.enter 115 args) w := fun _ _ => by kernel_rfl
theorem lamLeaf1 (seed : ByteArray) (leaf : Int) (hs : seed.size ≤ 1000000) (hl : leaf ≤ 9223372036854775807) (b s : Nat) (g3 g4 : Nat) (t3 t4 : TypeId) (w : World) (h3 : w.heap[g3]? = some (.cells #[.string seed] t3 (0, 0))) (h4 : w.heap[g4]? = some (.cells #[.int .i64 leaf] t4 (0, 0))) :
    Calls Try.prog 115 #[.int .i64 (b : Int), .int .i64 (s : Int), .pointer (some ⟨g3, 0, none⟩), .pointer (some ⟨g4, 0, none⟩)] w fun e w' => e = .returned (idV (leafPub seed leaf b s)) ∧ Below w.heap.size w w' := by
  have H3 := hid h3
  have H4 := hid h4
  have HL := hid hl
  have HTL := hid (leafPub_length seed leaf b s)
  clear h3 h4 hl
  go_enter Try.func115, Try.ntmps115
  apply wp_seq_k; intro _ _; apply wp_region_lit
  refine op_alloc rfl rfl ?_
  intro gr W hgl hgu hb hr
  have HR := hid hr; have HB := hid hb; have HRL := hid hgl; have HRU := hid hgu
  clear hr hb hgl hgu
  try simp only [Act.put, List.setIfInBounds_toArray, List.set_cons_zero, List.set_cons_succ]
  refine wpList_nil ?_
  have c3 := cell_box H3.out HB.out
  have c4 := cell_box H4.out HB.out
  go_wp2_with fail
  refine (lamSecret seed leaf b s hs HL.out _).mono ?_
  rintro e w1 ⟨rfl, hb⟩
  replace HR := hid (grow_block HR.out hb)
  replace HB := hid (Grow.trans HB.out hb)
  clear hb
  clear c3 c4
  go_wp2_with fail
  refine (lamPublic (secretOf seed leaf b s) (secretOf_length _ _ _ _) _).mono ?_
  rintro e w2 ⟨rfl, hb⟩
  replace HR := hid (grow_block HR.out hb)
  replace HB := hid (Grow.trans HB.out hb)
  clear hb
  go_wp2_with (first |  (refine op_buildId rfl rfl ?_) | (refine op_storeId (l := leafPub seed leaf b s) rfl rfl rfl rfl rfl HR.out (by rfl) (HTL.out) ?_))
  intro wz hz _ hbz
  have HZ := hid hz; have HBZ := hid (hbz _ _ HB.out HRL.out)
  clear hz hbz
  go_wp2_with fail
  refine bodyPost_ret (ret_id rfl rfl HZ.out (HTL.out)) rfl ⟨?_, HBZ.out⟩
  rfl
def leafRes (seed : ByteArray) (leaf bits : Int) : List UInt8 := if rightB bits && decide (0 ≤ leaf) then leafOf seed leaf bits.toNat else zero8 32
def leafErr (leaf bits : Int) : Int := if rightB bits && decide (0 ≤ leaf) then 0 else 1
theorem leafRes_length (seed : ByteArray) (leaf bits : Int) : (leafRes seed leaf bits).length = 32 := by unfold leafRes; split; exact leafOf_length _ _ _; rfl
theorem lamLeaf (seed : ByteArray) (leaf bits : Int) (hs : seed.size ≤ 1000000) (hl : leaf ≤ 9223372036854775807) (w : World) :
    Calls Try.prog 54 #[.string seed, .int .i64 leaf, .int .i64 bits] w fun e w' => e = .returned (.tuple #[idV (leafRes seed leaf bits), .int .i64 (leafErr leaf bits)]) ∧ Below w.heap.size w w' := by
  have HL := hid hl
  clear hl
  by_cases hr : rightB bits = true ∧ 0 ≤ leaf
  · obtain ⟨hr, h0⟩ := hr
    have HR1 := hid (show leafRes seed leaf bits = leafOf seed leaf bits.toNat by simp [leafRes, hr, h0])
    have HR2 := hid (show leafErr leaf bits = 0 by simp [leafErr, hr, h0])
    have hb8 : 8 ≤ bits ∧ bits ≤ 256 := by simp [rightB] at hr; omega
    obtain ⟨n, rfl⟩ : ∃ n : Nat, bits = n := ⟨bits.toNat, by omega⟩
    have hn : n ≤ 256 := by omega
    have HRR := hid hr
    have HTL := hid (leafOf_length seed leaf n)
    have t1 : decide (leaf < 0) = false := by simp; omega
    clear hr hb8
    go_enter Try.func54, Try.ntmps54
    have HB := hid (grow_refl w)
    apply wp_seq_k; intro _ _; apply wp_region_lit
    refine op_box1 (v := .string seed) rfl rfl rfl rfl ?_
    intro g3 W3 _ _ hb h3
    have H3 := hid h3
    replace HB := hid (Grow.trans HB.out hb)
    clear hb h3
    simp only [Act.put, List.setIfInBounds_toArray, List.set_cons_zero, List.set_cons_succ]
    refine op_box1 (v := .int .i64 leaf) rfl rfl rfl rfl ?_
    intro g4 W4 _ _ hb h4
    have H4 := hid h4
    replace HB := hid (Grow.trans HB.out hb)
    replace H3 := hid (grow_block H3.out hb)
    clear hb
    clear h4
    simp only [Act.put, List.setIfInBounds_toArray, List.set_cons_zero, List.set_cons_succ]
    refine op_alloc rfl rfl ?_
    intro gr w1 hgl hgu hb hr
    have HRL := hid (Nat.le_trans HB.out.size hgl)
    replace HB := hid (Grow.trans HB.out hb)
    replace H3 := hid (grow_block H3.out hb)
    replace H4 := hid (grow_block H4.out hb)
    have HR := hid hr; have HRU := hid hgu
    clear hr hgl hgu hb
    try simp only [Act.put, List.setIfInBounds_toArray, List.set_cons_zero, List.set_cons_succ]
    have c4 := cell_box H4.out (grow_refl _)
    go_wp2_with fail
    have c4' := fun w' (h : Grow w1 w') => cell_box H4.out h
    refine (lamRight n _).mono ?_
    rintro e w2 ⟨rfl, hb⟩
    replace HB := hid (Grow.trans HB.out hb)
    replace H3 := hid (grow_block H3.out hb)
    replace H4 := hid (grow_block H4.out hb)
    replace HR := hid (grow_block HR.out hb)
    clear hb
    rw [HRR.out]
    have c5 := cell_box H4.out (grow_refl _)
    clear c4 c4'
    go_wp2_with fail
    have HF0 := hid (show ∀ (b : Nat) w', b < n → Grow _ w' → Calls Try.prog 115 (#[.int .i64 (b : Int), .int .i64 0] ++ #[.pointer (some ⟨g3, 0, none⟩), .pointer (some ⟨g4, 0, none⟩)]) w' fun e w'' => e = .returned (idV (leafPub seed leaf b 0)) ∧ Below w'.heap.size w' w'' from fun b w' _ hg => by
      rw [show (#[.int .i64 (b : Int), .int .i64 0] ++ #[.pointer (some ⟨g3, 0, none⟩), .pointer (some ⟨g4, 0, none⟩)] : Array Value) = #[.int .i64 (b : Int), .int .i64 ((0 : Nat) : Int), .pointer (some ⟨g3, 0, none⟩), .pointer (some ⟨g4, 0, none⟩)] by simp]
      exact lamLeaf1 seed leaf hs HL.out b 0 g3 g4 _ _ w' (grow_block H3.out hg) (grow_block H4.out hg))
    have HF1 := hid (show ∀ (b : Nat) w', b < n → Grow _ w' → Calls Try.prog 115 (#[.int .i64 (b : Int), .int .i64 1] ++ #[.pointer (some ⟨g3, 0, none⟩), .pointer (some ⟨g4, 0, none⟩)]) w' fun e w'' => e = .returned (idV (leafPub seed leaf b 1)) ∧ Below w'.heap.size w' w'' from fun b w' _ hg => by
      rw [show (#[.int .i64 (b : Int), .int .i64 1] ++ #[.pointer (some ⟨g3, 0, none⟩), .pointer (some ⟨g4, 0, none⟩)] : Array Value) = #[.int .i64 (b : Int), .int .i64 ((1 : Nat) : Int), .pointer (some ⟨g3, 0, none⟩), .pointer (some ⟨g4, 0, none⟩)] by simp]
      exact lamLeaf1 seed leaf hs HL.out b 1 g3 g4 _ _ w' (grow_block H3.out hg) (grow_block H4.out hg))
    refine (lamBoth n (by omega) _ _ (leafPub seed leaf) (leafPub_length seed leaf) _ ent_leaf1 HF0.out HF1.out).mono ?_
    rintro e w5 ⟨v, rfl, ho, hb⟩
    replace HB := hid (Grow.trans HB.out hb)
    replace H3 := hid (grow_block H3.out hb)
    replace H4 := hid (grow_block H4.out hb)
    replace HR := hid (grow_block HR.out hb)
    clear hb
    obtain ⟨⟨A5, c5', rfl, hrow⟩, _⟩ := ho.sl
    have HO := hid hrow
    clear ho hrow c5
    go_wp2_with fail
    refine (tagChain ⟨#[108, 101, 97, 102]⟩ (by decide) A5 _ _ (bothRow (leafPub seed leaf) n) _ HO.out rfl (bothRow_32 _ (leafPub_length seed leaf) n) (by rw [bothRow_length]; omega)).mono ?_
    rintro e w3 ⟨rfl, hb⟩
    replace HB := hid (Grow.trans HB.out hb)
    replace H3 := hid (grow_block H3.out hb)
    replace H4 := hid (grow_block H4.out hb)
    replace HR := hid (grow_block HR.out hb)
    replace HO := hid (HO.out.grow hb)
    clear hb
    go_wp2_with (first |  (refine op_buildId rfl rfl ?_) | (refine op_storeId (l := leafOf seed leaf n) rfl rfl rfl rfl rfl HR.out (by rfl) (HTL.out) ?_))
    intro wz hz _ hbz
    have HZ := hid hz; have HBZ := hid (hbz _ _ HB.out HRL.out)
    clear hz hbz
    go_wp2_with fail
    refine bodyPost_ret (ret_idt rfl rfl HZ.out (HTL.out)) rfl ⟨?_, HBZ.out⟩
    rw [HR1.out, HR2.out]
    rfl
  · have HR1 := hid (show leafRes seed leaf bits = zero8 32 by unfold leafRes; rw [if_neg]; simpa using hr)
    have HR2 := hid (show leafErr leaf bits = 1 by unfold leafErr; rw [if_neg]; simpa using hr)
    by_cases hr1 : rightB bits = true
    · have h0 : leaf < 0 := by
        by_cases h0 : leaf < 0
        · exact h0
        · exact absurd ⟨hr1, by omega⟩ hr
      have HRR := hid hr1
      clear hr1 hr
      go_enter Try.func54, Try.ntmps54
      have HB := hid (grow_refl w)
      apply wp_seq_k; intro _ _; apply wp_region_lit
      refine op_box1 (v := .string seed) rfl rfl rfl rfl ?_
      intro g3 W3 _ _ hb h3
      replace HB := hid (Grow.trans HB.out hb)
      clear hb h3
      simp only [Act.put, List.setIfInBounds_toArray, List.set_cons_zero, List.set_cons_succ]
      refine op_box1 (v := .int .i64 leaf) rfl rfl rfl rfl ?_
      intro g4 W4 _ _ hb h4
      have H4 := hid h4
      replace HB := hid (Grow.trans HB.out hb)
      clear hb
      clear h4
      simp only [Act.put, List.setIfInBounds_toArray, List.set_cons_zero, List.set_cons_succ]
      refine op_alloc rfl rfl ?_
      intro gr w4 hgl hgu hb hr
      have HRL := hid (Nat.le_trans HB.out.size hgl)
      replace HB := hid (Grow.trans HB.out hb)
      replace H4 := hid (grow_block H4.out hb)
      have HR := hid hr; have HRU := hid hgu
      clear hr hgl hgu hb
      try simp only [Act.put, List.setIfInBounds_toArray, List.set_cons_zero, List.set_cons_succ]
      go_wp2_with fail
      refine (lamRight bits _).mono ?_
      rintro e w5 ⟨rfl, hb⟩
      replace HB := hid (Grow.trans HB.out hb)
      replace H4 := hid (grow_block H4.out hb)
      replace HR := hid (grow_block HR.out hb)
      clear hb
      rw [HRR.out]
      have c5 := cell_box H4.out (grow_refl _)
      go_wp2_with (first |  (refine op_buildId rfl rfl ?_) | (refine op_storeId (l := zero8 32) rfl rfl rfl rfl rfl HR.out (by rfl) (rfl) ?_))
      intro wz hz _ hbz
      have HZ := hid hz; have HBZ := hid (hbz _ _ HB.out HRL.out)
      clear hz hbz
      go_wp2_with fail
      refine bodyPost_ret (ret_idt rfl rfl HZ.out (rfl)) rfl ⟨?_, HBZ.out⟩
      rw [HR1.out, HR2.out]
      rfl
    · have HRR := hid (show rightB bits = false by simpa using hr1)
      clear hr1 hr
      go_enter Try.func54, Try.ntmps54
      have HB := hid (grow_refl w)
      apply wp_seq_k; intro _ _; apply wp_region_lit
      refine op_box1 (v := .string seed) rfl rfl rfl rfl ?_
      intro g3 W3 _ _ hb h3
      replace HB := hid (Grow.trans HB.out hb)
      clear hb h3
      simp only [Act.put, List.setIfInBounds_toArray, List.set_cons_zero, List.set_cons_succ]
      refine op_box1 (v := .int .i64 leaf) rfl rfl rfl rfl ?_
      intro g4 W4 _ _ hb h4
      replace HB := hid (Grow.trans HB.out hb)
      clear hb
      clear h4
      simp only [Act.put, List.setIfInBounds_toArray, List.set_cons_zero, List.set_cons_succ]
      refine op_alloc rfl rfl ?_
      intro gr w6 hgl hgu hb hr
      have HRL := hid (Nat.le_trans HB.out.size hgl)
      replace HB := hid (Grow.trans HB.out hb)
      have HR := hid hr; have HRU := hid hgu
      clear hr hgl hgu hb
      try simp only [Act.put, List.setIfInBounds_toArray, List.set_cons_zero, List.set_cons_succ]
      go_wp2_with fail
      refine (lamRight bits _).mono ?_
      rintro e w7 ⟨rfl, hb⟩
      replace HB := hid (Grow.trans HB.out hb)
      replace HR := hid (grow_block HR.out hb)
      clear hb
      rw [HRR.out]
      go_wp2_with (first |  (refine op_buildId rfl rfl ?_) | (refine op_storeId (l := zero8 32) rfl rfl rfl rfl rfl HR.out (by rfl) (rfl) ?_))
      intro wz hz _ hbz
      have HZ := hid hz; have HBZ := hid (hbz _ _ HB.out HRL.out)
      clear hz hbz
      go_wp2_with fail
      refine bodyPost_ret (ret_idt rfl rfl HZ.out (rfl)) rfl ⟨?_, HBZ.out⟩
      rw [HR1.out, HR2.out]
      rfl
end Go.Proofs.Ytkibibgbmkejjaa
