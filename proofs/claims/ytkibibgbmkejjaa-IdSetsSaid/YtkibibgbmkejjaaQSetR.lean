/- The references for rows of ids: Has, Put, Sort, Only. -/
import Derived.Test.YtkibibgbmkejjaaQSet0
import Derived.Test.YtkibibgbmkejjaaQIdL
import Derived.Test.YtkibibgbmkejjaaQSame
set_option linter.unusedSimpArgs false
set_option linter.unusedVariables false
namespace Go.Qk
open Go.RowKit
/-- A slice value that reads as ids, with room for them. -/
def IdSlC (w : World) (v : Value) (xs : List (List UInt8)) : Prop := (∃ A c, v = .slice A xs.length c ∧ xs.length ≤ c ∧ IdRow w A xs) ∧ ∀ s ∈ xs, s.length = 32
theorem IdSlC.grow {w w1 : World} {v : Value} {xs : List (List UInt8)} (h : IdSlC w v xs) (hg : Grow w w1) : IdSlC w1 v xs := by
  obtain ⟨⟨A, c, e, h0, h1⟩, h2⟩ := h
  exact ⟨⟨A, c, e, h0, h1.grow hg⟩, h2⟩
theorem OwnIds.slc {e : TypeId} {B : Nat} {w : World} {v : Value} {xs : List (List UInt8)} (h : OwnIds e B w v xs) : IdSlC w v xs := by
  obtain ⟨⟨A, c, hv, hr⟩, h32⟩ := h.sl
  refine ⟨⟨A, c, hv, ?_, hr⟩, h32⟩
  rcases h.1.2 with ⟨rfl, h0⟩ | ⟨g, cap, cur, rfl, _, _, hc, _⟩
  · injection hv with _ h1 h2
    omega
  · injection hv with _ h1 h2
    omega
/-- A row with one more, before the first that is above it. -/
def ins (a : List UInt8) : List (List UInt8) → List (List UInt8)
  | [] => [a]
  | y :: l => if lexLess a y then a :: y :: l else y :: ins a l
def hasL (l : List (List UInt8)) (a : List UInt8) : Bool := l.contains a
def putL (l : List (List UInt8)) (a : List UInt8) : List (List UInt8) := if l.contains a then l else ins a l
def sortL (l : List (List UInt8)) : List (List UInt8) := l.foldl putL []
theorem ins_length (a : List UInt8) : ∀ l, (ins a l).length = l.length + 1
  | [] => rfl
  | y :: l => by
    unfold ins
    split
    · rfl
    · rw [List.length_cons, ins_length a l, List.length_cons]
theorem ins_mem (a : List UInt8) : ∀ (l : List (List UInt8)) (s : List UInt8), s ∈ ins a l → s = a ∨ s ∈ l
  | [], s, h => by simp [ins] at h; exact .inl h
  | y :: l, s, h => by
    unfold ins at h
    split at h
    · simpa using h
    · rcases List.mem_cons.1 h with h | h
      · exact .inr (h ▸ List.mem_cons_self)
      · rcases ins_mem a l s h with h | h
        · exact .inl h
        · exact .inr (List.mem_cons_of_mem _ h)
theorem putL_32 {l : List (List UInt8)} {a : List UInt8} (hl : ∀ s ∈ l, s.length = 32) (ha : a.length = 32) : ∀ s ∈ putL l a, s.length = 32 := by
  intro s hs
  unfold putL at hs
  split at hs
  · exact hl s hs
  · rcases ins_mem a l s hs with h | h
    · rw [h, ha]
    · exact hl s h
theorem putL_length (l : List (List UInt8)) (a : List UInt8) : (putL l a).length ≤ l.length + 1 := by
  unfold putL
  split
  · omega
  · rw [ins_length]; omega
theorem sortTo_32 (l : List (List UInt8)) (hl : ∀ s ∈ l, s.length = 32) (k : Nat) : ∀ s ∈ sortL (l.take k), s.length = 32 := by
  have gen : ∀ (m acc : List (List UInt8)), (∀ s ∈ m, s.length = 32) → (∀ s ∈ acc, s.length = 32) → ∀ s ∈ m.foldl putL acc, s.length = 32 := by
    intro m
    induction m with
    | nil => intro acc _ h; exact h
    | cons a m ih =>
      intro acc h1 h2
      exact ih _ (fun s hs => h1 s (List.mem_cons_of_mem _ hs)) (putL_32 h2 (h1 a List.mem_cons_self))
  exact gen _ [] (fun s hs => hl s (List.mem_of_mem_take hs)) (fun s hs => by cases hs)
theorem sortL_length (l : List (List UInt8)) : (sortL l).length ≤ l.length := by
  have gen : ∀ (m acc : List (List UInt8)), (m.foldl putL acc).length ≤ acc.length + m.length := by
    intro m
    induction m with
    | nil => intro acc; simp
    | cons a m ih =>
      intro acc
      have h1 := ih (putL acc a)
      have h2 := putL_length acc a
      simp only [List.foldl_cons, List.length_cons]
      omega
  have := gen l []
  simpa [sortL] using this
theorem sortTo_succ (l : List (List UInt8)) (k : Nat) (h : k < l.length) : sortL (l.take (k + 1)) = putL (sortL (l.take k)) (l.getD k []) := by
  unfold sortL
  rw [List.take_succ_eq_append_getElem h, List.foldl_append]
  simp [h]
end Go.Qk
namespace Go.Proofs.Ytkibibgbmkejjaa
open Go.RowKit
open Go.Qk hiding rotr b4
set_option maxHeartbeats 1000000
set_option maxRecDepth 100000
def RetSl (w : World) (xs : List (List UInt8)) (e : Ending) (w' : World) : Prop := ∃ v, e = .returned v ∧ IdSlC w' v xs ∧ Below w.heap.size w w'
theorem empty_own (w : World) (B : Nat) (hB : B ≤ w.heap.size) : OwnIds 23 B (w.alloc (.cells #[] 23)) (.slice (some ⟨w.heap.size, 0, none⟩) 0 0) [] :=
  ⟨⟨rfl, .inr ⟨w.heap.size, 0, #[], rfl, hB, heap_alloc_new _ _, Nat.le_refl _, by simp [maxLen], rfl, rfl⟩⟩, fun _ h => by cases h⟩
theorem contains_take (l : List (List UInt8)) (a : List UInt8) (k : Nat) (h : k < l.length) : (l.take (k + 1)).contains a = ((l.take k).contains a || (l.getD k [] == a)) := by
  rw [List.take_succ_eq_append_getElem h]
  have e : l.getD k [] = l[k] := by simp [h]
  rw [e, Bool.eq_iff_iff, List.contains_iff_mem, List.mem_append, Bool.or_eq_true, List.contains_iff_mem, List.mem_singleton, beq_iff_eq]
  exact ⟨fun h => h.imp id Eq.symm, fun h => h.imp id Eq.symm⟩
theorem refHas (A : Option Addr) (n c : Nat) (l : List (List UInt8)) (a : List UInt8) (w : World) (hx : IdRow w A l) (hn : l.length = n) (hl : ∀ s ∈ l, s.length = 32) (ha : a.length = 32) :
    Calls Try.prog 87 #[.slice A n c, idV a] w fun e w' => e = .returned (.bool (hasL l a)) ∧ Below w.heap.size w w' := by
  subst hn
  have HX := hid hx
  have HL := hid hl
  have HA := hid ha
  have hxl := hx.1
  clear hx hl ha
  go_enter Try.func87, Try.ntmps87
  have HB := hid (grow_refl w)
  apply wp_seq_k; intro _ _; apply wp_region_lit
  refine op_box (l := a) rfl rfl rfl ?_
  intro g3 w1 hgl hgu hb hr
  have XL := hid (Nat.le_trans HB.out.size hgl)
  replace HB := hid (Grow.trans HB.out hb)
  have X := hid hr; have XU := hid hgu
  clear hr hgl hgu hb
  try simp only [Act.put, List.setIfInBounds_toArray, List.set_cons_zero, List.set_cons_succ]
  go_wp2_with fail
  go_loopg [5] (l.length + 1) (fun q i wr => ∃ k : Nat, k ≤ l.length ∧ q = l.length + 1 - k ∧ i = .int .i64 k ∧ Hid ((l.take k).contains a = false) ∧ Hid (Grow w1 wr))
  case atStart => exact ⟨0, by omega, rfl, rfl, hid rfl, hid (grow_refl _)⟩
  case round =>
    obtain ⟨k, hk, hq, rfl, HT, HG⟩ := hrel
    by_cases hlt : k < l.length
    · have k0 : (0 : Int) ≤ (k : Int) := by omega
      have k1 : (k : Int) < (l.length : Int) := by omega
      have HG2 := hid (Grow.trans HB.out HG.out)
      obtain ⟨ad, rfl, hc⟩ := (HX.out.grow HG2.out).at_ k hlt
      have HC := hid hc
      have HS1 := hid (getD_mem_len HL.out hlt)
      have HX3 := hid (grow_block X.out HG.out)
      have hq1 := fun w => id_eql (l.getD k []) a HS1.out HA.out w
      have hq2 := id_guard .eql (l.getD k []) a
      have HN := hid (contains_take l a k hlt)
      have HM := hid (show l.getD k [] ∈ l by simp [hlt])
      clear hc
      generalize l.getD k [] = s1 at *
      go_wp2_with fail
      (refine' wp_region_head 6 0 [_, _, _, _, _, _] rfl (by kernel_rfl) (by kernel_rfl) ?hreg1; case' hreg1 => simp only [List.take_succ_cons, List.take_zero, List.zip_cons_cons, List.zip_nil_right, List.drop_succ_cons, List.drop_zero, List.drop_nil])
      (refine' head_val ?dw2 ?de2 ?dr2 ?dh2; (case' dw2 => rfl); (case' de2 => (first | exact fun _ _ _ => trivial | (intro t ht w; cases ht; simp [upE]))); (case' dr2 => (intro w' hw' _; go_simp; with_reducible rfl)); (case' dh2 => (try simp only [Act.put, List.setIfInBounds_toArray, List.set_cons_zero, List.set_cons_succ]))); (refine' head_val ?dw3 ?de3 ?dr3 ?dh3; (case' dw3 => rfl); (case' de3 => (first | exact fun _ _ _ => trivial | (intro t ht w; cases ht; simp [upE]))); (case' dr3 => (intro w' hw' _; go_simp; with_reducible rfl)); (case' dh3 => (try simp only [Act.put, List.setIfInBounds_toArray, List.set_cons_zero, List.set_cons_succ]))); (refine' head_val ?dw4 ?de4 ?dr4 ?dh4; (case' dw4 => rfl); (case' de4 => (first | exact fun _ _ _ => trivial | (intro t ht w; cases ht; simp [upE]))); (case' dr4 => (intro w' hw' _; go_simp; with_reducible rfl)); (case' dh4 => (try simp only [Act.put, List.setIfInBounds_toArray, List.set_cons_zero, List.set_cons_succ])))
      (refine' head_loadAt (x := _) rfl ?_ rfl rfl (HC.out) (HS1.out) ?_; (first | exact fun _ _ _ => trivial | (intro t ht w; cases ht; simp [upE])); try simp only [Act.put, List.setIfInBounds_toArray, List.set_cons_zero, List.set_cons_succ])
      (refine' head_loadId (x := _) rfl ?_ rfl rfl HX3.out (HA.out) ?_; (first | exact fun _ _ _ => trivial | (intro t ht w; cases ht; simp [upE])); try simp only [Act.put, List.setIfInBounds_toArray, List.set_cons_zero, List.set_cons_succ])
      (refine' head_val ?dw5 ?de5 ?dr5 ?dh5; (case' dw5 => rfl); (case' de5 => (first | exact fun _ _ _ => trivial | (intro t ht w; cases ht; simp [upE]))); (case' dr5 => (intro w' hw' _; go_simp; with_reducible rfl)); (case' dh5 => (try simp only [Act.put, List.setIfInBounds_toArray, List.set_cons_zero, List.set_cons_succ])))
      refine head_nil ?_
      intro w2 hb _
      refine wpList_nil ?_
      replace HG := hid (Grow.trans HG.out hb)
      clear hb hq1 hq2
      cases hz : (s1 == a) with
      | true =>
        have HZ := hid hz
        clear hz
        go_wp2
        go_ret
        refine ⟨ret_bool ?_, HB.out.trans HG.out⟩
        unfold hasL
        have e := eq_of_beq HZ.out
        have hm := HM.out
        rw [e] at hm
        simpa using hm
      | false =>
        have HT2 := hid (show (l.take (k + 1)).contains a = false by rw [HN.out, HT.out, hz]; rfl)
        clear hz
        go_wp2
        go_roundg (l.length + 1 - (k + 1))
        case rel => exact ⟨k + 1, by omega, rfl, by go_num, HT2, HG⟩
        case measure => omega
    · obtain rfl : k = l.length := by omega
      have h := HT.out
      rw [List.take_length] at h
      have HF := hid h
      clear h
      go_wp2
      go_ret
      exact ⟨ret_bool HF.out.symm, HB.out.trans HG.out⟩
theorem ins_split (a : List UInt8) : ∀ (l : List (List UInt8)) (k : Nat), (∀ i, i < k → i < l.length → lexLess a (l.getD i []) = false) → k ≤ l.length → ins a l = l.take k ++ ins a (l.drop k)
  | l, 0, _, _ => rfl
  | [], k + 1, _, h => by simp at h
  | y :: l, k + 1, h, hk => by
    have h0 := h 0 (by omega) (by simp)
    simp only [List.getD_cons_zero] at h0
    rw [ins, if_neg (by rw [h0]; simp), ins_split a l k (fun i hi hl => by have := h (i + 1) (by omega) (by simpa using hl); simpa using this) (by simpa using hk)]
    rfl
theorem refPut (A : Option Addr) (n c : Nat) (l : List (List UInt8)) (a : List UInt8) (w : World) (hx : IdRow w A l) (hn : l.length = n) (hc0 : l.length ≤ c) (hl : ∀ s ∈ l, s.length = 32) (ha : a.length = 32) (hmax : l.length ≤ 1000000) :
    Calls Try.prog 101 #[.slice A n c, idV a] w (RetSl w (putL l a)) := by
  subst hn
  have HX := hid hx
  have HL := hid hl
  have HA := hid ha
  have HCC := hid hc0
  clear hx hl ha hc0
  cases hh : hasL l a with
  | true =>
    have HH := hid hh
    have HP := hid (show putL l a = l by unfold putL; exact if_pos hh)
    clear hh
    rw [HP.out]
    go_enter Try.func101, Try.ntmps101
    have HB := hid (grow_refl w)
    apply wp_seq_k; intro _ _; apply wp_region_lit
    refine op_box (l := a) rfl rfl rfl ?_
    intro g3 w1 hgl hgu hb hr
    have XL := hid (Nat.le_trans HB.out.size hgl)
    replace HB := hid (Grow.trans HB.out hb)
    replace HX := hid (HX.out.grow hb)
    have X := hid hr; have XU := hid hgu
    clear hr hgl hgu hb
    try simp only [Act.put, List.setIfInBounds_toArray, List.set_cons_zero, List.set_cons_succ]
    go_wp2_with (first | (refine op_loadId rfl rfl rfl X.out (HA.out) ?_) |  fail)
    refine (refHas A _ c l a _ HX.out rfl HL.out HA.out).mono ?_
    rintro e w2 ⟨rfl, hb⟩
    replace HB := hid (Grow.trans HB.out hb)
    replace HX := hid (HX.out.grow hb)
    replace X := hid (grow_block X.out hb)
    clear hb
    rw [HH.out]
    go_wp2
    go_ret
    exact ⟨_, rfl, ⟨⟨A, c, rfl, HCC.out, HX.out⟩, HL.out⟩, HB.out⟩
  | false =>
    have HH := hid hh
    have HP := hid (show putL l a = ins a l by unfold putL; exact if_neg (by unfold hasL at hh; rw [hh]; simp))
    clear hh
    rw [HP.out]
    go_enter Try.func101, Try.ntmps101
    have HB := hid (grow_refl w)
    apply wp_seq_k; intro _ _; apply wp_region_lit
    refine op_box (l := a) rfl rfl rfl ?_
    intro g3 w3 hgl hgu hb hr
    have XL := hid (Nat.le_trans HB.out.size hgl)
    replace HB := hid (Grow.trans HB.out hb)
    replace HX := hid (HX.out.grow hb)
    have X := hid hr; have XU := hid hgu
    clear hr hgl hgu hb
    try simp only [Act.put, List.setIfInBounds_toArray, List.set_cons_zero, List.set_cons_succ]
    go_wp2_with (first | (refine op_loadId rfl rfl rfl X.out (HA.out) ?_) |  fail)
    refine (refHas A _ c l a _ HX.out rfl HL.out HA.out).mono ?_
    rintro e w4 ⟨rfl, hb⟩
    replace HB := hid (Grow.trans HB.out hb)
    replace HX := hid (HX.out.grow hb)
    replace X := hid (grow_block X.out hb)
    clear hb
    rw [HH.out]
    go_wp2_with fail
    have HO := hid (empty_own w4 w4.heap.size (Nat.le_refl _))
    have HG := hid (grow_alloc w4 (.cells #[] 23))
    go_loopg [5, 6, 7] (l.length + 1) (fun q v d i wr => ∃ (k : Nat) (done : Bool) (o : List (List UInt8)), k ≤ l.length ∧ q = l.length + 1 - k ∧ i = .int .i64 k ∧ d = .bool done ∧ Hid (done = true → o ++ l.drop k = ins a l) ∧ Hid (done = false → o = l.take k ∧ ins a l = l.take k ++ ins a (l.drop k)) ∧ Hid (o.length ≤ k + 1) ∧ Hid (OwnIds 23 w4.heap.size wr v o) ∧ Hid (Grow w4 wr))
    case atStart => exact ⟨0, false, [], by omega, rfl, rfl, rfl, hid (fun h => by cases h), hid (fun _ => ⟨rfl, rfl⟩), hid (by simp), HO, HG⟩
    case round =>
      clear HO HG
      obtain ⟨k, done, o, hk, hq, rfl, rfl, HD1, HD2, HLN, HO, HG⟩ := hrel
      by_cases hlt : k < l.length
      · have k0 : (0 : Int) ≤ (k : Int) := by omega
        have k1 : (k : Int) < (l.length : Int) := by omega
        obtain ⟨ad, rfl, hc⟩ := HX.out.at_ k hlt
        have HC := hid hc
        have HS1 := hid (getD_mem_len HL.out hlt)
        have HDR := hid (show l.drop k = l.getD k [] :: l.drop (k + 1) by rw [List.drop_eq_getElem_cons hlt]; simp [hlt])
        have HTK := hid (show l.take (k + 1) = l.take k ++ [l.getD k []] by rw [List.take_succ_eq_append_getElem hlt]; simp [hlt])
        have hol : o.length ≤ 1000001 := by have := HLN.out; omega
        clear hc
        generalize l.getD k [] = s1 at *
        cases done with
        | true =>
          have HE := hid (show (o ++ [s1]) ++ l.drop (k + 1) = ins a l by have h := HD1.out rfl; rw [HDR.out] at h; rw [← h]; simp)
          clear HD1 HD2
          go_wp2_with fail
          (refine' wp_region_head 10 0 [_, _, _, _, _, _, _, _, _, _] rfl (by kernel_rfl) (by kernel_rfl) ?hreg6; case' hreg6 => simp only [List.take_succ_cons, List.take_zero, List.zip_cons_cons, List.zip_nil_right, List.drop_succ_cons, List.drop_zero, List.drop_nil])
          (refine' head_val ?dw7 ?de7 ?dr7 ?dh7; (case' dw7 => rfl); (case' de7 => (first | exact fun _ _ _ => trivial | (intro t ht w; cases ht; simp [upE]))); (case' dr7 => (intro w' hw' _; go_simp; with_reducible rfl)); (case' dh7 => (try simp only [Act.put, List.setIfInBounds_toArray, List.set_cons_zero, List.set_cons_succ]))); (refine' head_val ?dw8 ?de8 ?dr8 ?dh8; (case' dw8 => rfl); (case' de8 => (first | exact fun _ _ _ => trivial | (intro t ht w; cases ht; simp [upE]))); (case' dr8 => (intro w' hw' _; go_simp; with_reducible rfl)); (case' dh8 => (try simp only [Act.put, List.setIfInBounds_toArray, List.set_cons_zero, List.set_cons_succ]))); (refine' head_val ?dw9 ?de9 ?dr9 ?dh9; (case' dw9 => rfl); (case' de9 => (first | exact fun _ _ _ => trivial | (intro t ht w; cases ht; simp [upE]))); (case' dr9 => (intro w' hw' _; go_simp; with_reducible rfl)); (case' dh9 => (try simp only [Act.put, List.setIfInBounds_toArray, List.set_cons_zero, List.set_cons_succ])))
          (refine' head_skip (V := fun _ _ => True) ?sw10 ?se10 ?sh10; (case' sw10 => rfl); (case' se10 => (first | exact fun _ _ _ => trivial | (intro t ht w; cases ht; simp [upE]))); (case' sh10 => (try simp only [Act.put, List.setIfInBounds_toArray, List.set_cons_zero, List.set_cons_succ]))); (refine' head_skip (V := fun _ _ => True) ?sw11 ?se11 ?sh11; (case' sw11 => rfl); (case' se11 => (first | exact fun _ _ _ => trivial | (intro t ht w; cases ht; simp [upE]))); (case' sh11 => (try simp only [Act.put, List.setIfInBounds_toArray, List.set_cons_zero, List.set_cons_succ]))); (refine' head_skip (V := fun _ _ => True) ?sw12 ?se12 ?sh12; (case' sw12 => rfl); (case' se12 => (first | exact fun _ _ _ => trivial | (intro t ht w; cases ht; simp [upE]))); (case' sh12 => (try simp only [Act.put, List.setIfInBounds_toArray, List.set_cons_zero, List.set_cons_succ]))); (refine' head_skip (V := fun _ _ => True) ?sw13 ?se13 ?sh13; (case' sw13 => rfl); (case' se13 => (first | exact fun _ _ _ => trivial | (intro t ht w; cases ht; simp [upE]))); (case' sh13 => (try simp only [Act.put, List.setIfInBounds_toArray, List.set_cons_zero, List.set_cons_succ]))); (refine' head_skip (V := fun _ _ => True) ?sw14 ?se14 ?sh14; (case' sw14 => rfl); (case' se14 => (first | exact fun _ _ _ => trivial | (intro t ht w; cases ht; simp [upE]))); (case' sh14 => (try simp only [Act.put, List.setIfInBounds_toArray, List.set_cons_zero, List.set_cons_succ]))); (refine' head_skip (V := fun _ _ => True) ?sw15 ?se15 ?sh15; (case' sw15 => rfl); (case' se15 => (first | exact fun _ _ _ => trivial | (intro t ht w; cases ht; simp [upE]))); (case' sh15 => (try simp only [Act.put, List.setIfInBounds_toArray, List.set_cons_zero, List.set_cons_succ])))
          (refine' head_val ?dw16 ?de16 ?dr16 ?dh16; (case' dw16 => rfl); (case' de16 => (first | exact fun _ _ _ => trivial | (intro t ht w; cases ht; simp [upE]))); (case' dr16 => (intro w' hw' _; go_simp; with_reducible rfl)); (case' dh16 => (try simp only [Act.put, List.setIfInBounds_toArray, List.set_cons_zero, List.set_cons_succ])))
          refine head_nil ?_
          intro w5 hb _
          refine wpList_nil ?_
          replace HO := hid (HO.out.grow hb)
          replace HG := hid (Grow.trans HG.out hb)
          clear hb
          go_wp2_with (first | (refine op_loadId rfl rfl rfl (grow_block X.out HG.out) HA.out ?_) | (refine op_loadAt (l := s1) rfl rfl rfl (fun j v hv => grow_cell (HC.out j v hv) HG.out) HS1.out ?_) | (refine op_appIds1 (w0 := w4) (l1 := s1) rfl rfl rfl rfl rfl rfl (fun _ => rfl) (fun _ => rfl) HS1.out HO.out HG.out HG.out.size (by first | omega | (simp; omega)) ?_))
          intro u6 v6 w6 ho hb hs
          clear HO HG
          have HO := hid ho
          have HG := hid hb
          clear ho hb hs
          go_wp2
          go_roundg (l.length + 1 - (k + 1))
          case rel => exact ⟨k + 1, true, o ++ [s1], by omega, rfl, by go_num, rfl, hid (fun _ => HE.out), hid (fun h => by cases h), hid (by have := HLN.out; simp; omega), HO, HG⟩
          case measure => omega
        | false =>
          obtain ⟨ho1, ho2⟩ := HD2.out rfl
          have HO1 := hid ho1
          have HO2 := hid ho2
          clear HD1 HD2 ho1 ho2
          cases hz : lexLess a s1 with
          | true =>
            have HE := hid (show (o ++ [a, s1]) ++ l.drop (k + 1) = ins a l by rw [HO2.out, HDR.out, ins, if_pos hz, HO1.out]; simp)
            have HZ := hid hz
            clear hz
            have HX3 := hid (grow_block X.out HG.out)
            go_wp2_with fail
            (refine' wp_region_head 10 0 [_, _, _, _, _, _, _, _, _, _] rfl (by kernel_rfl) (by kernel_rfl) ?hreg17; case' hreg17 => simp only [List.take_succ_cons, List.take_zero, List.zip_cons_cons, List.zip_nil_right, List.drop_succ_cons, List.drop_zero, List.drop_nil])
            (refine' head_val ?dw18 ?de18 ?dr18 ?dh18; (case' dw18 => rfl); (case' de18 => (first | exact fun _ _ _ => trivial | (intro t ht w; cases ht; simp [upE]))); (case' dr18 => (intro w' hw' _; go_simp; with_reducible rfl)); (case' dh18 => (try simp only [Act.put, List.setIfInBounds_toArray, List.set_cons_zero, List.set_cons_succ]))); (refine' head_val ?dw19 ?de19 ?dr19 ?dh19; (case' dw19 => rfl); (case' de19 => (first | exact fun _ _ _ => trivial | (intro t ht w; cases ht; simp [upE]))); (case' dr19 => (intro w' hw' _; go_simp; with_reducible rfl)); (case' dh19 => (try simp only [Act.put, List.setIfInBounds_toArray, List.set_cons_zero, List.set_cons_succ]))); (refine' head_val ?dw20 ?de20 ?dr20 ?dh20; (case' dw20 => rfl); (case' de20 => (first | exact fun _ _ _ => trivial | (intro t ht w; cases ht; simp [upE]))); (case' dr20 => (intro w' hw' _; go_simp; with_reducible rfl)); (case' dh20 => (try simp only [Act.put, List.setIfInBounds_toArray, List.set_cons_zero, List.set_cons_succ])))
            (refine' head_loadId (x := _) rfl ?_ rfl rfl HX3.out (HA.out) ?_; (first | exact fun _ _ _ => trivial | (intro t ht w; cases ht; simp [upE])); try simp only [Act.put, List.setIfInBounds_toArray, List.set_cons_zero, List.set_cons_succ])
            (refine' head_val ?dw21 ?de21 ?dr21 ?dh21; (case' dw21 => rfl); (case' de21 => (first | exact fun _ _ _ => trivial | (intro t ht w; cases ht; simp [upE]))); (case' dr21 => (intro w' hw' _; go_simp; with_reducible rfl)); (case' dh21 => (try simp only [Act.put, List.setIfInBounds_toArray, List.set_cons_zero, List.set_cons_succ]))); (refine' head_val ?dw22 ?de22 ?dr22 ?dh22; (case' dw22 => rfl); (case' de22 => (first | exact fun _ _ _ => trivial | (intro t ht w; cases ht; simp [upE]))); (case' dr22 => (intro w' hw' _; go_simp; with_reducible rfl)); (case' dh22 => (try simp only [Act.put, List.setIfInBounds_toArray, List.set_cons_zero, List.set_cons_succ]))); (refine' head_val ?dw23 ?de23 ?dr23 ?dh23; (case' dw23 => rfl); (case' de23 => (first | exact fun _ _ _ => trivial | (intro t ht w; cases ht; simp [upE]))); (case' dr23 => (intro w' hw' _; go_simp; with_reducible rfl)); (case' dh23 => (try simp only [Act.put, List.setIfInBounds_toArray, List.set_cons_zero, List.set_cons_succ])))
            (refine' head_loadAt (x := _) rfl ?_ rfl rfl (fun j v hv => grow_cell (HC.out j v hv) HG.out) (HS1.out) ?_; (first | exact fun _ _ _ => trivial | (intro t ht w; cases ht; simp [upE])); try simp only [Act.put, List.setIfInBounds_toArray, List.set_cons_zero, List.set_cons_succ])
            (refine' head_call ?cw24 ?ce24 ?cr24 ?cc24 ?ch24; (case' cw24 => rfl); (case' ce24 => (first | exact fun _ _ _ => trivial | (intro t ht w; cases ht; simp [upE]))); (case' cr24 => (intro w'; go_simp; first | exact ⟨rfl, rfl⟩ | with_reducible rfl)); (case' cc24 => (intro w' hw' _; exact by have h := refLess a s1 HA.out HS1.out w'; rw [HZ.out] at h; exact h)); (case' ch24 => (try simp only [Act.put, List.setIfInBounds_toArray, List.set_cons_zero, List.set_cons_succ])))
            (refine' head_val ?dw25 ?de25 ?dr25 ?dh25; (case' dw25 => rfl); (case' de25 => (first | exact fun _ _ _ => trivial | (intro t ht w; cases ht; simp [upE]))); (case' dr25 => (intro w' hw' _; go_simp; with_reducible rfl)); (case' dh25 => (try simp only [Act.put, List.setIfInBounds_toArray, List.set_cons_zero, List.set_cons_succ])))
            clear HX3
            refine head_nil ?_
            intro w5 hb _
            refine wpList_nil ?_
            replace HO := hid (HO.out.grow hb)
            replace HG := hid (Grow.trans HG.out hb)
            clear hb
            go_wp2_with (first | (refine op_loadId rfl rfl rfl (grow_block X.out HG.out) HA.out ?_) | (refine op_loadAt (l := s1) rfl rfl rfl (fun j v hv => grow_cell (HC.out j v hv) HG.out) HS1.out ?_) | (refine op_appIds1 (w0 := w4) (l1 := a) rfl rfl rfl rfl rfl rfl (fun _ => rfl) (fun _ => rfl) HA.out HO.out HG.out HG.out.size (by first | omega | (simp; omega)) ?_))
            intro u6 v6 w6 ho hb hs
            clear HO HG
            have HO := hid ho
            have HG := hid hb
            clear ho hb hs
            go_wp2_with (first | (refine op_loadId rfl rfl rfl (grow_block X.out HG.out) HA.out ?_) | (refine op_loadAt (l := s1) rfl rfl rfl (fun j v hv => grow_cell (HC.out j v hv) HG.out) HS1.out ?_) | (refine op_appIds1 (w0 := w4) (l1 := s1) rfl rfl rfl rfl rfl rfl (fun _ => rfl) (fun _ => rfl) HS1.out HO.out HG.out HG.out.size (by first | omega | (simp; omega)) ?_))
            intro u7 v7 w7 ho hb hs
            clear HO HG
            have HO := hid ho
            have HG := hid hb
            clear ho hb hs
            go_wp2
            go_roundg (l.length + 1 - (k + 1))
            case rel => exact ⟨k + 1, true, o ++ [a, s1], by omega, rfl, by go_num, rfl, hid (fun _ => HE.out), hid (fun h => by cases h), hid (by rw [HO1.out]; simp; omega), HO, HG⟩
            case measure => omega
          | false =>
            have HE1 := hid (show o ++ [s1] = l.take (k + 1) by rw [HO1.out, HTK.out])
            have HE2 := hid (show ins a l = l.take (k + 1) ++ ins a (l.drop (k + 1)) by
              rw [HO2.out, HDR.out, ins, if_neg (by rw [hz]; simp), HTK.out]
              simp)
            have HZ := hid hz
            clear hz
            have HX3 := hid (grow_block X.out HG.out)
            go_wp2_with fail
            (refine' wp_region_head 10 0 [_, _, _, _, _, _, _, _, _, _] rfl (by kernel_rfl) (by kernel_rfl) ?hreg26; case' hreg26 => simp only [List.take_succ_cons, List.take_zero, List.zip_cons_cons, List.zip_nil_right, List.drop_succ_cons, List.drop_zero, List.drop_nil])
            (refine' head_val ?dw27 ?de27 ?dr27 ?dh27; (case' dw27 => rfl); (case' de27 => (first | exact fun _ _ _ => trivial | (intro t ht w; cases ht; simp [upE]))); (case' dr27 => (intro w' hw' _; go_simp; with_reducible rfl)); (case' dh27 => (try simp only [Act.put, List.setIfInBounds_toArray, List.set_cons_zero, List.set_cons_succ]))); (refine' head_val ?dw28 ?de28 ?dr28 ?dh28; (case' dw28 => rfl); (case' de28 => (first | exact fun _ _ _ => trivial | (intro t ht w; cases ht; simp [upE]))); (case' dr28 => (intro w' hw' _; go_simp; with_reducible rfl)); (case' dh28 => (try simp only [Act.put, List.setIfInBounds_toArray, List.set_cons_zero, List.set_cons_succ]))); (refine' head_val ?dw29 ?de29 ?dr29 ?dh29; (case' dw29 => rfl); (case' de29 => (first | exact fun _ _ _ => trivial | (intro t ht w; cases ht; simp [upE]))); (case' dr29 => (intro w' hw' _; go_simp; with_reducible rfl)); (case' dh29 => (try simp only [Act.put, List.setIfInBounds_toArray, List.set_cons_zero, List.set_cons_succ])))
            (refine' head_loadId (x := _) rfl ?_ rfl rfl HX3.out (HA.out) ?_; (first | exact fun _ _ _ => trivial | (intro t ht w; cases ht; simp [upE])); try simp only [Act.put, List.setIfInBounds_toArray, List.set_cons_zero, List.set_cons_succ])
            (refine' head_val ?dw30 ?de30 ?dr30 ?dh30; (case' dw30 => rfl); (case' de30 => (first | exact fun _ _ _ => trivial | (intro t ht w; cases ht; simp [upE]))); (case' dr30 => (intro w' hw' _; go_simp; with_reducible rfl)); (case' dh30 => (try simp only [Act.put, List.setIfInBounds_toArray, List.set_cons_zero, List.set_cons_succ]))); (refine' head_val ?dw31 ?de31 ?dr31 ?dh31; (case' dw31 => rfl); (case' de31 => (first | exact fun _ _ _ => trivial | (intro t ht w; cases ht; simp [upE]))); (case' dr31 => (intro w' hw' _; go_simp; with_reducible rfl)); (case' dh31 => (try simp only [Act.put, List.setIfInBounds_toArray, List.set_cons_zero, List.set_cons_succ]))); (refine' head_val ?dw32 ?de32 ?dr32 ?dh32; (case' dw32 => rfl); (case' de32 => (first | exact fun _ _ _ => trivial | (intro t ht w; cases ht; simp [upE]))); (case' dr32 => (intro w' hw' _; go_simp; with_reducible rfl)); (case' dh32 => (try simp only [Act.put, List.setIfInBounds_toArray, List.set_cons_zero, List.set_cons_succ])))
            (refine' head_loadAt (x := _) rfl ?_ rfl rfl (fun j v hv => grow_cell (HC.out j v hv) HG.out) (HS1.out) ?_; (first | exact fun _ _ _ => trivial | (intro t ht w; cases ht; simp [upE])); try simp only [Act.put, List.setIfInBounds_toArray, List.set_cons_zero, List.set_cons_succ])
            (refine' head_call ?cw33 ?ce33 ?cr33 ?cc33 ?ch33; (case' cw33 => rfl); (case' ce33 => (first | exact fun _ _ _ => trivial | (intro t ht w; cases ht; simp [upE]))); (case' cr33 => (intro w'; go_simp; first | exact ⟨rfl, rfl⟩ | with_reducible rfl)); (case' cc33 => (intro w' hw' _; exact by have h := refLess a s1 HA.out HS1.out w'; rw [HZ.out] at h; exact h)); (case' ch33 => (try simp only [Act.put, List.setIfInBounds_toArray, List.set_cons_zero, List.set_cons_succ])))
            (refine' head_val ?dw34 ?de34 ?dr34 ?dh34; (case' dw34 => rfl); (case' de34 => (first | exact fun _ _ _ => trivial | (intro t ht w; cases ht; simp [upE]))); (case' dr34 => (intro w' hw' _; go_simp; with_reducible rfl)); (case' dh34 => (try simp only [Act.put, List.setIfInBounds_toArray, List.set_cons_zero, List.set_cons_succ])))
            clear HX3
            refine head_nil ?_
            intro w5 hb _
            refine wpList_nil ?_
            replace HO := hid (HO.out.grow hb)
            replace HG := hid (Grow.trans HG.out hb)
            clear hb
            go_wp2_with (first | (refine op_loadId rfl rfl rfl (grow_block X.out HG.out) HA.out ?_) | (refine op_loadAt (l := s1) rfl rfl rfl (fun j v hv => grow_cell (HC.out j v hv) HG.out) HS1.out ?_) | (refine op_appIds1 (w0 := w4) (l1 := s1) rfl rfl rfl rfl rfl rfl (fun _ => rfl) (fun _ => rfl) HS1.out HO.out HG.out HG.out.size (by first | omega | (simp; omega)) ?_))
            intro u7 v7 w7 ho hb hs
            clear HO HG
            have HO := hid ho
            have HG := hid hb
            clear ho hb hs
            go_wp2
            go_roundg (l.length + 1 - (k + 1))
            case rel => exact ⟨k + 1, false, o ++ [s1], by omega, rfl, by go_num, rfl, hid (fun h => by cases h), hid (fun _ => ⟨HE1.out, HE2.out⟩), hid (by have := HLN.out; simp; omega), HO, HG⟩
            case measure => omega
      · obtain rfl : k = l.length := by omega
        have hol : o.length ≤ 1000001 := by have := HLN.out; omega
        cases done with
        | true =>
          have h := HD1.out rfl
          rw [List.drop_length, List.append_nil] at h
          have HE := hid h
          clear h HD1 HD2
          go_wp2_with fail
          go_ret
          rw [← HE.out]
          exact ⟨_, rfl, HO.out.slc, HB.out.trans HG.out⟩
        | false =>
          obtain ⟨ho1, ho2⟩ := HD2.out rfl
          have HE := hid (show o ++ [a] = ins a l by rw [ho2, ho1, List.drop_length]; rfl)
          clear HD1 HD2 ho1 ho2
          go_wp2_with (first | (refine op_loadId rfl rfl rfl (grow_block X.out HG.out) HA.out ?_) | (refine op_appIds1 (w0 := w4) (l1 := a) rfl rfl rfl rfl rfl rfl (fun _ => rfl) (fun _ => rfl) HA.out HO.out HG.out HG.out.size (by first | omega | (simp; omega)) ?_))
          intro u7 v7 w7 ho hb hs
          clear HO HG
          have HO := hid ho
          have HG := hid hb
          clear ho hb hs
          go_wp2_with fail
          go_ret
          rw [← HE.out]
          exact ⟨_, rfl, HO.out.slc, HB.out.trans HG.out⟩
theorem refSort (A : Option Addr) (n c : Nat) (l : List (List UInt8)) (w : World) (hx : IdRow w A l) (hn : l.length = n) (hl : ∀ s ∈ l, s.length = 32) (hmax : l.length ≤ 1000000) :
    Calls Try.prog 30 #[.slice A n c] w (RetSl w (sortL l)) := by
  subst hn
  have HX := hid hx
  have HL := hid hl
  clear hx hl
  go_enter Try.func30, Try.ntmps30
  have HB := hid (grow_refl w)
  go_wp2_with fail
  have HO := hid (empty_own w w.heap.size (Nat.le_refl _))
  have HG := hid (grow_alloc w (.cells #[] 23))
  go_loopg [3, 4] (l.length + 1) (fun q v i wr => ∃ k : Nat, k ≤ l.length ∧ q = l.length + 1 - k ∧ i = .int .i64 k ∧ Hid (IdSlC wr v (sortL (l.take k))) ∧ Hid (Grow w wr))
  case atStart => exact ⟨0, by omega, rfl, rfl, hid (HO.out.slc), HG⟩
  case round =>
    clear HO HG
    obtain ⟨k, hk, hq, rfl, HO, HG⟩ := hrel
    by_cases hlt : k < l.length
    · have k0 : (0 : Int) ≤ (k : Int) := by omega
      have k1 : (k : Int) < (l.length : Int) := by omega
      obtain ⟨ad, rfl, hc⟩ := (HX.out.grow HG.out).at_ k hlt
      have HC := hid hc
      have HS1 := hid (getD_mem_len HL.out hlt)
      have HN := hid (sortTo_succ l k hlt)
      have HLE := hid (show (sortL (l.take k)).length ≤ 1000000 by have := sortL_length (l.take k); rw [List.length_take] at this; omega)
      obtain ⟨⟨A2, c2, rfl, hcc, hr⟩, h32⟩ := HO.out
      have HR := hid hr
      have HCC := hid hcc
      have H32 := hid h32
      clear hc hr hcc h32 HO
      generalize l.getD k [] = s1 at *
      generalize sortL (l.take k) = o at *
      go_wp2_with (refine op_loadAt (l := s1) rfl rfl rfl HC.out HS1.out ?_)
      refine (refPut A2 _ c2 o s1 _ HR.out rfl HCC.out H32.out HS1.out HLE.out).mono ?_
      rintro e w2 ⟨v, rfl, ho, hb⟩
      rw [← HN.out] at ho
      have HO := hid ho
      replace HG := hid (Grow.trans HG.out hb)
      clear ho hb HC
      go_wp2
      go_roundg (l.length + 1 - (k + 1))
      case rel => exact ⟨k + 1, by omega, rfl, by go_num, HO, HG⟩
      case measure => omega
    · obtain rfl : k = l.length := by omega
      go_wp2_with fail
      go_ret
      rw [List.take_length] at HO
      exact ⟨_, rfl, HO.out, HG.out⟩
def onlyL (a b : List (List UInt8)) (h : Bool) : List (List UInt8) := a.filter (fun x => hasL b x == h)
theorem onlyL_succ (a b : List (List UInt8)) (h : Bool) (k : Nat) (hk : k < a.length) : onlyL (a.take (k + 1)) b h = onlyL (a.take k) b h ++ (if hasL b (a.getD k []) == h then [a.getD k []] else []) := by
  rw [List.take_succ_eq_append_getElem hk, onlyL, List.filter_append]
  have e : a.getD k [] = a[k] := by simp [hk]
  rw [e]
  simp [onlyL, List.filter_cons]
theorem onlyL_32 {a b : List (List UInt8)} {h : Bool} (ha : ∀ s ∈ a, s.length = 32) : ∀ s ∈ onlyL a b h, s.length = 32 := fun s hs => ha s (List.mem_filter.1 hs).1
theorem refOnly (A B : Option Addr) (n m c d : Nat) (a b : List (List UInt8)) (h : Bool) (w : World) (hx : IdRow w A a) (hy : IdRow w B b) (hn : a.length = n) (hm : b.length = m) (ha : ∀ s ∈ a, s.length = 32) (hbb : ∀ s ∈ b, s.length = 32) (hmax : a.length ≤ 1000000) :
    Calls Try.prog 34 #[.slice A n c, .slice B m d, .bool h] w (RetSl w (onlyL a b h)) := by
  subst hn hm
  have HX := hid hx
  have HY := hid hy
  have HL := hid ha
  have HLB := hid hbb
  clear hx hy ha hbb
  go_enter Try.func34, Try.ntmps34
  have HB := hid (grow_refl w)
  go_wp2_with fail
  have HO := hid (empty_own w w.heap.size (Nat.le_refl _))
  have HG := hid (grow_alloc w (.cells #[] 23))
  go_loopg [7, 8] (a.length + 1) (fun q v i wr => ∃ k : Nat, k ≤ a.length ∧ q = a.length + 1 - k ∧ i = .int .i64 k ∧ Hid (OwnIds 23 w.heap.size wr v (onlyL (a.take k) b h)) ∧ Hid (Grow w wr))
  case atStart => exact ⟨0, by omega, rfl, rfl, HO, HG⟩
  case round =>
    clear HO HG
    obtain ⟨k, hk, hq, rfl, HO, HG⟩ := hrel
    by_cases hlt : k < a.length
    · have k0 : (0 : Int) ≤ (k : Int) := by omega
      have k1 : (k : Int) < (a.length : Int) := by omega
      obtain ⟨ad, rfl, hc⟩ := HX.out.at_ k hlt
      have HC := hid hc
      have HS1 := hid (getD_mem_len HL.out hlt)
      have HN := hid (onlyL_succ a b h k hlt)
      have hol : (onlyL (a.take k) b h).length ≤ 1000000 := by
        have h1 := List.length_filter_le (fun x => hasL b x == h) (a.take k)
        rw [List.length_take] at h1
        unfold onlyL
        omega
      clear hc
      generalize a.getD k [] = s1 at *
      go_wp2_with (refine op_loadAt (l := s1) rfl rfl rfl (fun j v hv => grow_cell (HC.out j v hv) HG.out) HS1.out ?_)
      refine (refHas B _ d b s1 _ (HY.out.grow HG.out) rfl HLB.out HS1.out).mono ?_
      rintro e w2 ⟨rfl, hb⟩
      replace HO := hid (HO.out.grow hb)
      replace HG := hid (Grow.trans HG.out hb)
      clear hb
      cases hz : (hasL b s1 == h) with
      | true =>
        have HE := hid (show onlyL (a.take (k + 1)) b h = onlyL (a.take k) b h ++ [s1] by rw [HN.out, if_pos hz])
        have HZ := hid hz
        clear hz
        have hz2 := HZ.out
        go_wp2_with (first | (refine op_loadAt (l := s1) rfl rfl rfl (fun j v hv => grow_cell (HC.out j v hv) HG.out) HS1.out ?_) | (refine op_appIds1 (w0 := w) (l1 := s1) rfl rfl rfl rfl rfl rfl (fun _ => rfl) (fun _ => rfl) HS1.out HO.out HG.out HG.out.size (by omega) ?_))
        intro u3 v3 w3 ho hb hs
        rw [← HE.out] at ho
        clear HO HG hz2
        have HO := hid ho
        have HG := hid hb
        clear ho hb hs
        go_wp2
        go_roundg (a.length + 1 - (k + 1))
        case rel => exact ⟨k + 1, by omega, rfl, by go_num, HO, HG⟩
        case measure => omega
      | false =>
        have HE := hid (show onlyL (a.take (k + 1)) b h = onlyL (a.take k) b h by rw [HN.out, if_neg (by rw [hz]; simp), List.append_nil])
        rw [← HE.out] at HO
        go_wp2
        go_roundg (a.length + 1 - (k + 1))
        case rel => exact ⟨k + 1, by omega, rfl, by go_num, HO, HG⟩
        case measure => omega
    · obtain rfl : k = a.length := by omega
      rw [List.take_length] at HO
      go_wp2_with fail
      go_ret
      exact ⟨_, rfl, HO.out.slc, HG.out⟩
end Go.Proofs.Ytkibibgbmkejjaa
