/- The law IdRows. -/
import Derived.Test.YtffgifegaagndaaQSrt6
set_option linter.unusedSimpArgs false
set_option linter.unusedVariables false
namespace Go.Proofs.Ytffgifegaagndaa
open Go.RowKit
open Go.Qk hiding rotr b4
set_option maxHeartbeats 2000000
set_option maxRecDepth 100000
theorem ret_slAt {f : FuncId} {args : Array Value} {w : World} {xs : List (List UInt8)} (h : Calls Try.prog f args w (RetSl w xs)) :
    Calls Try.prog f args w fun e w' => ∃ v, e = .returned v ∧ idsAt xs v w' ∧ Below w.heap.size w w' :=
  h.mono fun _ _ ⟨v, he, ho, hb⟩ => ⟨v, he, (by obtain ⟨⟨A, c, e1, _, h1⟩, _⟩ := ho; exact ⟨A, c, e1, h1⟩), hb⟩
theorem rises_lt {ys : List (List UInt8)} (h : Rises ys) (i j : Nat) (hij : i < j) (hj : j < ys.length) : lexLess (ys.getD i []) (ys.getD j []) = true := by
  have := List.pairwise_iff_getElem.1 h i j (by omega) hj hij
  simpa [hj, show i < ys.length by omega] using this
theorem bsF_place (ys : List (List UInt8)) (a : List UInt8) (h : Rises ys) (n : Nat) (hn : ys.length = n) : ∀ f lo hi, hi - lo ≤ f → lo ≤ hi → hi ≤ n → (∀ i, i < lo → lexLess (ys.getD i []) a = true) → (∀ i, hi ≤ i → i < n → lexLess (ys.getD i []) a = false) →
    bsF ys a f lo hi ≤ n ∧ (∀ i, i < bsF ys a f lo hi → lexLess (ys.getD i []) a = true) ∧ (∀ i, bsF ys a f lo hi ≤ i → i < n → lexLess (ys.getD i []) a = false)
  | 0, lo, hi, hf, h1, h2, h3, h4 => by
    obtain rfl : lo = hi := by omega
    exact ⟨h2, h3, h4⟩
  | f + 1, lo, hi, hf, h1, h2, h3, h4 => by
    unfold bsF
    by_cases hlt : lo < hi
    · rw [if_pos hlt]
      obtain ⟨m, hm⟩ : ∃ m, m = (lo + hi) / 2 := ⟨_, rfl⟩
      rw [← hm]
      cases hl : lexLess (ys.getD m []) a with
      | true =>
        rw [if_pos rfl]
        refine bsF_place ys a h n hn f (m + 1) hi (by omega) (by omega) h2 (fun i hi2 => ?_) h4
        by_cases him : i = m
        · subst him; exact hl
        · exact lexLess_trans _ _ _ (rises_lt h i m (by omega) (by omega)) hl
      | false =>
        rw [if_neg (by simp)]
        refine bsF_place ys a h n hn f lo m (by omega) (by omega) (by omega) h3 (fun i hi1 hi2 => ?_)
        by_cases him : i = m
        · subst him; exact hl
        · cases hx : lexLess (ys.getD i []) a with
          | false => rfl
          | true =>
            have := lexLess_trans _ _ _ (rises_lt h m i (by omega) (by omega)) hx
            rw [hl] at this
            cases this
    · rw [if_neg hlt]
      obtain rfl : lo = hi := by omega
      exact ⟨h2, h3, h4⟩
theorem bsN_place (ys : List (List UInt8)) (a : List UInt8) (h : Rises ys) : bsN ys a ≤ ys.length ∧ (∀ i, i < bsN ys a → lexLess (ys.getD i []) a = true) ∧ (∀ i, bsN ys a ≤ i → i < ys.length → lexLess (ys.getD i []) a = false) :=
  bsF_place ys a h ys.length rfl ys.length 0 ys.length (by omega) (by omega) (by omega) (fun i hi => by omega) (fun i h1 h2 => by omega)
def cntL (ys : List (List UInt8)) (a : List UInt8) (k : Nat) : Nat := ((ys.take k).filter fun x => lexLess x a).length
theorem cntL_succ (ys : List (List UInt8)) (a : List UInt8) (k : Nat) (hk : k < ys.length) : cntL ys a (k + 1) = cntL ys a k + (if lexLess (ys.getD k []) a then 1 else 0) := by
  unfold cntL
  rw [List.take_succ_eq_append_getElem hk, List.filter_append, List.length_append]
  have : ys.getD k [] = ys[k] := by simp [hk]
  rw [this]
  cases h : lexLess ys[k] a <;> simp [h]
theorem cntL_le (ys : List (List UInt8)) (a : List UInt8) (k : Nat) : cntL ys a k ≤ k := by
  unfold cntL
  have h1 := List.length_filter_le (fun x => lexLess x a) (ys.take k)
  have h2 := List.length_take_le k ys
  omega
theorem cntL_upTo (ys : List (List UInt8)) (a : List UInt8) (h : Rises ys) : ∀ k, k ≤ ys.length → cntL ys a k = if k ≤ bsN ys a then k else bsN ys a
  | 0, _ => by simp [cntL]
  | k + 1, hk => by
    obtain ⟨p1, p2, p3⟩ := bsN_place ys a h
    rw [cntL_succ ys a k (by omega), cntL_upTo ys a h k (by omega)]
    by_cases hkb : k < bsN ys a
    · rw [p2 k hkb]
      simp only [if_true]
      split <;> split <;> omega
    · rw [p3 k (by omega) (by omega)]
      simp only [Bool.false_eq_true, if_false]
      split <;> split <;> omega
theorem cntL_all (ys : List (List UInt8)) (a : List UInt8) (h : Rises ys) : cntL ys a ys.length = bsN ys a := by
  have := (bsN_place ys a h).1
  rw [cntL_upTo ys a h _ (Nat.le_refl _)]
  by_cases hh : ys.length ≤ bsN ys a
  · rw [if_pos hh]; omega
  · rw [if_neg hh]
theorem bsHas_rises (ys : List (List UInt8)) (a : List UInt8) (h : Rises ys) : bsHas ys a = hasL ys a := by
  obtain ⟨p1, p2, p3⟩ := bsN_place ys a h
  unfold bsHas hasL
  by_cases hm : a ∈ ys
  · have hc : ys.contains a = true := by simpa using hm
    rw [hc]
    obtain ⟨i, hi, he⟩ := List.mem_iff_getElem.1 hm
    have hia : ys.getD i [] = a := by simp [hi, he]
    have h1 : bsN ys a ≤ i := by
      by_cases hlt : i < bsN ys a
      · have := p2 i hlt
        rw [hia, lexLess_irrefl] at this
        cases this
      · omega
    have h2 : bsN ys a = i := by
      by_cases hlt : bsN ys a < i
      · have := rises_lt h _ i hlt hi
        rw [hia, p3 _ (Nat.le_refl _) (by omega)] at this
        cases this
      · omega
    rw [h2, hia, decide_eq_true hi]
    simp
  · have hc : ys.contains a = false := by simpa using hm
    rw [hc]
    by_cases hlt : bsN ys a < ys.length
    · have : ys.getD (bsN ys a) [] ≠ a := by
        intro e
        apply hm
        have e2 : ys.getD (bsN ys a) [] = ys[bsN ys a] := by simp [hlt]
        rw [← e, e2]
        exact List.getElem_mem _
      rw [beq_eq_false_iff_ne.2 this, Bool.and_false]
    · rw [decide_eq_false hlt, Bool.false_and]
theorem hasL_sort (xs : List (List UInt8)) (a : List UInt8) (h32 : ∀ s ∈ xs, s.length = 32) : hasL (sortL xs) a = hasL xs a := by
  unfold hasL
  rw [Bool.eq_iff_iff]
  simp only [List.contains_iff_mem]
  exact mem_sortL xs h32 a
theorem idRows (A : Option Addr) (n c : Nat) (xs : List (List UInt8)) (a : List UInt8) (w : World) (hx : IdRow w A xs) (hn : xs.length = n) (h32 : ∀ s ∈ xs, s.length = 32) (ha : a.length = 32) :
    Calls Try.prog 11 #[.slice A n c, idV a] w fun e w' => e = .returned (.bool true) ∧ Below w.heap.size w w' := by
  have b1 : n ≤ 9223372036854775807 := by rw [← hn]; exact hx.1
  by_cases h40 : 40 < n
  · have t1 : decide ((40 : Int) < (n : Int)) = true := by simp; omega
    clear hx hn h32
    go_enter Try.func11, Try.ntmps11
    have HB := hid (grow_refl w)
    apply wp_seq_k; intro _ _; apply wp_region_lit
    refine op_box (l := a) rfl rfl rfl ?_
    intro gb w1 hgl hgu hb hr
    have BXL := hid (Nat.le_trans HB.out.size hgl)
    replace HB := hid (Grow.trans HB.out hb)
    have BX := hid hr; have BXU := hid hgu
    clear hr hgl hgu hb
    try simp only [Act.put, List.setIfInBounds_toArray, List.set_cons_zero, List.set_cons_succ]
    go_wp2_with fail
    refine (awake04 _).mono ?_
    rintro e w2 ⟨rfl, hb⟩
    replace HB := hid (Grow.trans HB.out hb)
    replace BX := hid (grow_block BX.out hb)
    clear hb
    go_wp2
    go_ret
    exact ⟨rfl, HB.out⟩
  · have t1 : decide ((40 : Int) < (n : Int)) = false := by simp; omega
    have HX := hid hx
    have HN := hid hn
    have H32 := hid h32
    have HA := hid ha
    have HL2 := hid (show (sortL xs).length ≤ n by rw [← hn]; exact sortL_length xs)
    have HS32 := hid (sortL_32 xs h32)
    have HRI := hid (sortL_rises xs h32)
    have HHS := hid (show bsHas (sortL xs) a = hasL xs a by rw [bsHas_rises _ _ HRI.out, hasL_sort xs a h32])
    have HCN := hid (cntL_all (sortL xs) a HRI.out)
    have HS := hid (fun w => idSort A n c xs w)
    clear hx hn h32 ha
    go_enter Try.func11, Try.ntmps11
    have HB := hid (grow_refl w)
    apply wp_seq_k; intro _ _; apply wp_region_lit
    refine op_box (l := a) rfl rfl rfl ?_
    intro gb w3 hgl hgu hb hr
    have BXL := hid (Nat.le_trans HB.out.size hgl)
    replace HB := hid (Grow.trans HB.out hb)
    have BX := hid hr; have BXU := hid hgu
    clear hr hgl hgu hb
    try simp only [Act.put, List.setIfInBounds_toArray, List.set_cons_zero, List.set_cons_succ]
    go_wp2_with fail
    refine (HS.out _ (HX.out.grow HB.out) HN.out H32.out (by omega)).mono ?_
    rintro e w4 ⟨v, rfl, ho, hb⟩
    replace HB := hid (Grow.trans HB.out hb)
    replace BX := hid (grow_block BX.out hb)
    clear hb
    obtain ⟨⟨AS, cs, rfl, hrow⟩, h32⟩ := ho.sl
    have O := hid hrow
    clear ho hrow h32
    clear HS
    obtain ⟨m, hm⟩ : ∃ m, m = (sortL xs).length := ⟨_, rfl⟩
    have HM := hid hm
    rw [← hm]
    clear hm
    go_wp2_with fail
    (refine' wp_region_head 21 0 [_, _, _, _, _, _, _, _, _, _, _, _, _, _, _, _, _, _, _, _, _] rfl (by kernel_rfl) (by kernel_rfl) ?hreg1; case' hreg1 => simp only [List.take_succ_cons, List.take_zero, List.zip_cons_cons, List.zip_nil_right, List.drop_succ_cons, List.drop_zero, List.drop_nil])
    (refine' head_val ?dw2 ?de2 ?dr2 ?dh2; (case' dw2 => rfl); (case' de2 => (first | exact fun _ _ _ => trivial | (intro t ht w; cases ht; simp [upE]))); (case' dr2 => (intro w' hw' _; go_simp; with_reducible rfl)); (case' dh2 => (try simp only [Act.put, List.setIfInBounds_toArray, List.set_cons_zero, List.set_cons_succ]))); (refine' head_val ?dw3 ?de3 ?dr3 ?dh3; (case' dw3 => rfl); (case' de3 => (first | exact fun _ _ _ => trivial | (intro t ht w; cases ht; simp [upE]))); (case' dr3 => (intro w' hw' _; go_simp; with_reducible rfl)); (case' dh3 => (try simp only [Act.put, List.setIfInBounds_toArray, List.set_cons_zero, List.set_cons_succ])))
    (refine' head_ids (xs := sortL xs) ?cw4 ?ce4 ?cr4 ?cc4 ?ch4; (case' cw4 => rfl); (case' ce4 => (first | exact fun _ _ _ => trivial | (intro t ht w; cases ht; simp [upE]))); (case' cr4 => (intro w'; go_simp; first | exact ⟨rfl, rfl⟩ | with_reducible rfl)); (case' cc4 => (intro w' hw' hE; first | exact ret_idsAt (refSort A n c xs w' (HX.out.grow (HB.out.trans hw')) HN.out H32.out (by have := HN.out; omega)) | exact ret_slAt (refSort A n c xs w' (HX.out.grow (HB.out.trans hw')) HN.out H32.out (by have := HN.out; omega)))); (case' ch4 => (intro AT ct; try simp only [Act.put, List.setIfInBounds_toArray, List.set_cons_zero, List.set_cons_succ])))
    (refine' head_call ?cw5 ?ce5 ?cr5 ?cc5 ?ch5; (case' cw5 => rfl); (case' ce5 => (first | exact fun _ _ _ => trivial | (intro t ht w; cases ht; simp [upE]))); (case' cr5 => (intro w'; go_simp; first | exact ⟨rfl, rfl⟩ | with_reducible rfl)); (case' cc5 => (intro w' hw' hE; exact by have := refSame AS AT m (sortL xs).length cs ct (sortL xs) (sortL xs) w' (O.out.grow hw') (ids_at (hE 17 (by decide))) HM.out.symm rfl HS32.out HS32.out; rw [beq_self_eq_true] at this; exact this)); (case' ch5 => (try simp only [Act.put, List.setIfInBounds_toArray, List.set_cons_zero, List.set_cons_succ])))
    (refine' head_val ?dw6 ?de6 ?dr6 ?dh6; (case' dw6 => rfl); (case' de6 => (first | exact fun _ _ _ => trivial | (intro t ht w; cases ht; simp [upE]))); (case' dr6 => (intro w' hw' _; go_simp; with_reducible rfl)); (case' dh6 => (try simp only [Act.put, List.setIfInBounds_toArray, List.set_cons_zero, List.set_cons_succ]))); (refine' head_val ?dw7 ?de7 ?dr7 ?dh7; (case' dw7 => rfl); (case' de7 => (first | exact fun _ _ _ => trivial | (intro t ht w; cases ht; simp [upE]))); (case' dr7 => (intro w' hw' _; go_simp; with_reducible rfl)); (case' dh7 => (try simp only [Act.put, List.setIfInBounds_toArray, List.set_cons_zero, List.set_cons_succ]))); (refine' head_val ?dw8 ?de8 ?dr8 ?dh8; (case' dw8 => rfl); (case' de8 => (first | exact fun _ _ _ => trivial | (intro t ht w; cases ht; simp [upE]))); (case' dr8 => (intro w' hw' _; go_simp; with_reducible rfl)); (case' dh8 => (try simp only [Act.put, List.setIfInBounds_toArray, List.set_cons_zero, List.set_cons_succ])))
    (refine' head_call ?cw9 ?ce9 ?cr9 ?cc9 ?ch9; (case' cw9 => rfl); (case' ce9 => (first | exact fun _ _ _ => trivial | (intro t ht w; cases ht; simp [upE]))); (case' cr9 => (intro w'; go_simp; first | exact ⟨rfl, rfl⟩ | with_reducible rfl)); (case' cc9 => (intro w' hw' _; exact idRises A n c xs w' (HX.out.grow (HB.out.trans hw')) HN.out H32.out (by omega))); (case' ch9 => (try simp only [Act.put, List.setIfInBounds_toArray, List.set_cons_zero, List.set_cons_succ])))
    (refine' head_val ?dw10 ?de10 ?dr10 ?dh10; (case' dw10 => rfl); (case' de10 => (first | exact fun _ _ _ => trivial | (intro t ht w; cases ht; simp [upE]))); (case' dr10 => (intro w' hw' _; go_simp; with_reducible rfl)); (case' dh10 => (try simp only [Act.put, List.setIfInBounds_toArray, List.set_cons_zero, List.set_cons_succ])))
    (refine' head_call ?cw11 ?ce11 ?cr11 ?cc11 ?ch11; (case' cw11 => rfl); (case' ce11 => (first | exact fun _ _ _ => trivial | (intro t ht w; cases ht; simp [upE]))); (case' cr11 => (intro w'; go_simp; first | exact ⟨rfl, rfl⟩ | with_reducible rfl)); (case' cc11 => (intro w' hw' _; exact refRises4 A n c xs w' (HX.out.grow (HB.out.trans hw')) HN.out H32.out (by omega))); (case' ch11 => (try simp only [Act.put, List.setIfInBounds_toArray, List.set_cons_zero, List.set_cons_succ])))
    (refine' head_val ?dw12 ?de12 ?dr12 ?dh12; (case' dw12 => rfl); (case' de12 => (first | exact fun _ _ _ => trivial | (intro t ht w; cases ht; simp [upE]))); (case' dr12 => (intro w' hw' _; go_simp; with_reducible rfl)); (case' dh12 => (try simp only [Act.put, List.setIfInBounds_toArray, List.set_cons_zero, List.set_cons_succ]))); (refine' head_val ?dw13 ?de13 ?dr13 ?dh13; (case' dw13 => rfl); (case' de13 => (first | exact fun _ _ _ => trivial | (intro t ht w; cases ht; simp [upE]))); (case' dr13 => (intro w' hw' _; go_simp; with_reducible rfl)); (case' dh13 => (try simp only [Act.put, List.setIfInBounds_toArray, List.set_cons_zero, List.set_cons_succ]))); (refine' head_val ?dw14 ?de14 ?dr14 ?dh14; (case' dw14 => rfl); (case' de14 => (first | exact fun _ _ _ => trivial | (intro t ht w; cases ht; simp [upE]))); (case' dr14 => (intro w' hw' _; go_simp; with_reducible rfl)); (case' dh14 => (try simp only [Act.put, List.setIfInBounds_toArray, List.set_cons_zero, List.set_cons_succ]))); (refine' head_val ?dw15 ?de15 ?dr15 ?dh15; (case' dw15 => rfl); (case' de15 => (first | exact fun _ _ _ => trivial | (intro t ht w; cases ht; simp [upE]))); (case' dr15 => (intro w' hw' _; go_simp; with_reducible rfl)); (case' dh15 => (try simp only [Act.put, List.setIfInBounds_toArray, List.set_cons_zero, List.set_cons_succ])))
    (refine' head_loadId (x := _) rfl ?_ rfl rfl BX.out (HA.out) ?_; (first | exact fun _ _ _ => trivial | (intro t ht w; cases ht; simp [upE])); try simp only [Act.put, List.setIfInBounds_toArray, List.set_cons_zero, List.set_cons_succ])
    (refine' head_call ?cw16 ?ce16 ?cr16 ?cc16 ?ch16; (case' cw16 => rfl); (case' ce16 => (first | exact fun _ _ _ => trivial | (intro t ht w; cases ht; simp [upE]))); (case' cr16 => (intro w'; go_simp; first | exact ⟨rfl, rfl⟩ | with_reducible rfl)); (case' cc16 => (intro w' hw' _; exact HHS.out ▸ idHas AS m cs (sortL xs) a w' (O.out.grow hw') HM.out.symm HS32.out HA.out (by have := HM.out; have := HL2.out; omega))); (case' ch16 => (try simp only [Act.put, List.setIfInBounds_toArray, List.set_cons_zero, List.set_cons_succ])))
    (refine' head_val ?dw17 ?de17 ?dr17 ?dh17; (case' dw17 => rfl); (case' de17 => (first | exact fun _ _ _ => trivial | (intro t ht w; cases ht; simp [upE]))); (case' dr17 => (intro w' hw' _; go_simp; with_reducible rfl)); (case' dh17 => (try simp only [Act.put, List.setIfInBounds_toArray, List.set_cons_zero, List.set_cons_succ])))
    (refine' head_loadId (x := _) rfl ?_ rfl rfl BX.out (HA.out) ?_; (first | exact fun _ _ _ => trivial | (intro t ht w; cases ht; simp [upE])); try simp only [Act.put, List.setIfInBounds_toArray, List.set_cons_zero, List.set_cons_succ])
    (refine' head_call ?cw18 ?ce18 ?cr18 ?cc18 ?ch18; (case' cw18 => rfl); (case' ce18 => (first | exact fun _ _ _ => trivial | (intro t ht w; cases ht; simp [upE]))); (case' cr18 => (intro w'; go_simp; first | exact ⟨rfl, rfl⟩ | with_reducible rfl)); (case' cc18 => (intro w' hw' _; exact refHas A n c xs a w' (HX.out.grow (HB.out.trans hw')) HN.out H32.out HA.out)); (case' ch18 => (try simp only [Act.put, List.setIfInBounds_toArray, List.set_cons_zero, List.set_cons_succ])))
    (refine' head_val ?dw19 ?de19 ?dr19 ?dh19; (case' dw19 => rfl); (case' de19 => (first | exact fun _ _ _ => trivial | (intro t ht w; cases ht; simp [upE]))); (case' dr19 => (intro w' hw' _; go_simp; with_reducible rfl)); (case' dh19 => (try simp only [Act.put, List.setIfInBounds_toArray, List.set_cons_zero, List.set_cons_succ]))); (refine' head_val ?dw20 ?de20 ?dr20 ?dh20; (case' dw20 => rfl); (case' de20 => (first | exact fun _ _ _ => trivial | (intro t ht w; cases ht; simp [upE]))); (case' dr20 => (intro w' hw' _; go_simp; with_reducible rfl)); (case' dh20 => (try simp only [Act.put, List.setIfInBounds_toArray, List.set_cons_zero, List.set_cons_succ])))
    refine head_nil ?_
    intro w1 hb _
    refine wpList_nil ?_
    replace HB := hid (Grow.trans HB.out hb)
    replace BX := hid (grow_block BX.out hb)
    replace O := hid (O.out.grow hb)
    clear hb
    go_wp2_with fail
    have MB := hid (show m ≤ 40 by have := HM.out; have := HL2.out; omega)
    go_loopg [6, 38] (m + 1) (fun z v6 i wr => ∃ k q : Nat, k ≤ m ∧ z = m + 1 - k ∧ v6 = .int .i64 (q : Int) ∧ i = .int .i64 (k : Int) ∧ Hid (q = cntL (sortL xs) a k) ∧ Hid (IdRow wr AS (sortL xs)) ∧ Hid (wr.heap[gb]? = some (.cells (u8s a).toArray 23 (0, 0))) ∧ Hid (Grow w wr))
    case atStart => exact ⟨0, 0, by omega, rfl, rfl, rfl, hid (by simp [cntL]), O, BX, HB⟩
    case round =>
      clear O BX HB
      obtain ⟨k, q, hk, hz, rfl, rfl, HQ, O, BX, HB⟩ := hrel
      have mb : (m : Int) ≤ 40 := by have := MB.out; omega
      by_cases hlt : k < m
      · have k0 : (0 : Int) ≤ (k : Int) := by omega
        have k1 : (k : Int) < (m : Int) := by omega
        have q1 : (q : Int) ≤ 40 := by have := HQ.out; have := cntL_le (sortL xs) a k; omega
        obtain ⟨ad, rfl, hc⟩ := O.out.at_ k (by rw [← HM.out]; exact hlt)
        have HC := hid hc
        have S1 := hid (getD_mem_len HS32.out (show k < (sortL xs).length by rw [← HM.out]; exact hlt))
        have HCS := hid (cntL_succ (sortL xs) a k (by rw [← HM.out]; exact hlt))
        clear hc
        generalize (sortL xs).getD k [] = s at *
        have HLS := hid (fun w => refLess s a S1.out HA.out w)
        generalize lexLess s a = lb at *
        go_wp2_with (first | (refine op_loadAt (l := s) rfl rfl rfl HC.out S1.out ?_) | (refine op_alloc rfl rfl ?_))
        intro g16 w16 hgl hgu hb hr
        go_wp2_with (refine op_storeId (l := s) rfl rfl rfl rfl rfl hr (by rfl) S1.out ?_)
        intro w17 hz9 _ hbl
        have hG : Grow wr w17 := hbl _ _ hb hgl
        have H16 := hid hz9
        clear hgl hgu hb hr hz9 hbl HC
        replace HB := hid (Grow.trans HB.out hG)
        replace BX := hid (grow_block BX.out hG)
        replace O := hid (O.out.grow hG)
        clear hG
        go_wp2_with (first | (refine op_loadId rfl rfl rfl H16.out (S1.out) ?_) | (refine op_loadId rfl rfl rfl BX.out (HA.out) ?_) |  fail)
        refine (HLS.out _).mono ?_
        rintro e w5 ⟨rfl, hb⟩
        replace HB := hid (Grow.trans HB.out hb)
        replace BX := hid (grow_block BX.out hb)
        replace O := hid (O.out.grow hb)
        replace H16 := hid (grow_block H16.out hb)
        clear hb
        cases lb with
        | true =>
          have HQ2 := hid (show q + 1 = cntL (sortL xs) a (k + 1) by rw [HCS.out, HQ.out]; simp)
          clear HCS HQ HLS
          go_wp2_with fail
          go_roundg (m + 1 - (k + 1))
          case rel => exact ⟨k + 1, q + 1, by omega, by omega, by go_num, by go_num, HQ2, O, BX, HB⟩
          case measure => omega
        | false =>
          have HQ2 := hid (show q = cntL (sortL xs) a (k + 1) by rw [HCS.out, HQ.out]; simp)
          clear HCS HQ HLS
          go_wp2_with fail
          go_roundg (m + 1 - (k + 1))
          case rel => exact ⟨k + 1, q, by omega, by omega, rfl, by go_num, HQ2, O, BX, HB⟩
          case measure => omega
      · obtain rfl : k = m := by omega
        have HQ2 := hid (show bsN (sortL xs) a = q by rw [HQ.out, HM.out]; exact HCN.out.symm)
        have HPL := hid (fun w h => idPlace AS k cs (sortL xs) a w h HM.out.symm HS32.out HA.out (by omega))
        rw [HQ2.out] at HPL
        clear HQ HQ2 HCN
        go_wp2_with (first | (refine op_loadId rfl rfl rfl BX.out (HA.out) ?_) |  fail)
        refine (HPL.out _ O.out).mono ?_
        rintro e w6 ⟨rfl, hb⟩
        replace HB := hid (Grow.trans HB.out hb)
        replace BX := hid (grow_block BX.out hb)
        clear hb
        go_wp2_with (first | (refine op_loadId rfl rfl rfl BX.out (HA.out) ?_) |  fail)
        refine (awake04 _).mono ?_
        rintro e w7 ⟨rfl, hb⟩
        replace HB := hid (Grow.trans HB.out hb)
        replace BX := hid (grow_block BX.out hb)
        clear hb
        go_wp2
        go_ret
        exact ⟨rfl, HB.out⟩
end Go.Proofs.Ytffgifegaagndaa
