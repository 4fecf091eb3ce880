/- merkle: a place's way, and the place. -/
import Derived.Test.YtffgifegaagndaaQMer2
import Derived.Test.YtffgifegaagndaaQSig1
import Derived.Test.YtffgifegaagndaaQSet1
set_option linter.unusedSimpArgs false
set_option linter.unusedVariables false
namespace Go.Proofs.Ytffgifegaagndaa
open Go.RowKit
open Go.Qk hiding rotr b4
set_option maxHeartbeats 1000000
set_option maxRecDepth 100000
def wayF : Nat → List (List UInt8) → Nat → List (List UInt8)
  | 0, _, _ => []
  | f + 1, l, i => if l.length < 2 then [] else if i < halfN l.length then wayF f (l.take (halfN l.length)) i ++ [rootL (l.drop (halfN l.length))] else wayF f (l.drop (halfN l.length)) (i - halfN l.length) ++ [rootL (l.take (halfN l.length))]
def wayL (l : List (List UInt8)) (i : Nat) : List (List UInt8) := wayF l.length l i
theorem wayF_fuel : ∀ (f g : Nat) (l : List (List UInt8)) (i : Nat), l.length ≤ f → l.length ≤ g → wayF f l i = wayF g l i
  | 0, g, l, i, h1, h2 => by
    obtain rfl : l = [] := List.eq_nil_of_length_eq_zero (by omega)
    cases g <;> rfl
  | f + 1, 0, l, i, h1, h2 => by
    obtain rfl : l = [] := List.eq_nil_of_length_eq_zero (by omega)
    rfl
  | f + 1, g + 1, l, i, h1, h2 => by
    unfold wayF
    by_cases h0 : l.length < 2
    · rw [if_pos h0, if_pos h0]
    · have hk := halfN_lt (show 2 ≤ l.length by omega)
      rw [if_neg h0, if_neg h0, wayF_fuel f g (l.take _) i (by rw [List.length_take]; omega) (by rw [List.length_take]; omega), wayF_fuel f g (l.drop _) _ (by rw [List.length_drop]; omega) (by rw [List.length_drop]; omega)]
theorem wayL_small (l : List (List UInt8)) (i : Nat) (h : l.length < 2) : wayL l i = [] := by
  unfold wayL
  cases hl : l.length with
  | zero => rfl
  | succ f => unfold wayF; rw [if_pos h]
theorem wayL_two (l : List (List UInt8)) (i : Nat) (h : 2 ≤ l.length) : wayL l i = if i < halfN l.length then wayL (l.take (halfN l.length)) i ++ [rootL (l.drop (halfN l.length))] else wayL (l.drop (halfN l.length)) (i - halfN l.length) ++ [rootL (l.take (halfN l.length))] := by
  have hk := halfN_lt h
  obtain ⟨f, hf⟩ : ∃ f, l.length = f + 1 := ⟨l.length - 1, by omega⟩
  have e : wayL l i = wayF (f + 1) l i := by rw [wayL, hf]
  rw [e]
  unfold wayF
  rw [if_neg (by omega), wayL, wayL, wayF_fuel f _ (l.take _) i (by rw [List.length_take]; omega) (Nat.le_refl _), wayF_fuel f _ (l.drop _) _ (by rw [List.length_drop]; omega) (Nat.le_refl _)]
theorem wayF_32 : ∀ f l i, ∀ s ∈ wayF f l i, s.length = 32
  | 0, l, i, s, hs => by cases hs
  | f + 1, l, i, s, hs => by
    unfold wayF at hs
    split at hs
    · cases hs
    · split at hs
      · rcases List.mem_append.1 hs with h | h
        · exact wayF_32 f _ _ s h
        · rw [List.mem_singleton.1 h]; exact rootL_length _
      · rcases List.mem_append.1 hs with h | h
        · exact wayF_32 f _ _ s h
        · rw [List.mem_singleton.1 h]; exact rootL_length _
theorem wayL_32 (l : List (List UInt8)) (i : Nat) : ∀ s ∈ wayL l i, s.length = 32 := wayF_32 _ _ _
theorem wayF_len : ∀ f l i, (wayF f l i).length ≤ f
  | 0, l, i => by simp [wayF]
  | f + 1, l, i => by
    unfold wayF
    split
    · simp
    · split
      · have := wayF_len f (l.take (halfN l.length)) i
        simp; omega
      · have := wayF_len f (l.drop (halfN l.length)) (i - halfN l.length)
        simp; omega
theorem wayL_len (l : List (List UInt8)) (i : Nat) : (wayL l i).length ≤ l.length := wayF_len _ _ _
theorem nilOwn (B : Nat) (w : World) : OwnIds 23 B w (.slice none 0 0) [] := ⟨⟨rfl, .inl ⟨rfl, rfl⟩⟩, fun s hs => by cases hs⟩
theorem mkWay : ∀ (f : Nat) (A : Option Addr) (n c : Nat) (xs : List (List UInt8)) (i : Nat) (w : World), xs.length ≤ f → IdRow w A xs → xs.length = n → n ≤ c → (∀ s ∈ xs, s.length = 32) → n ≤ 1000000 → i ≤ 1000000 →
    Calls Try.prog 140 #[.slice A n c, .int .i64 (i : Int)] w (RetIds w.heap.size w (wayL xs i))
  | f, A, n, c, xs, i, w, hf, hx, hn, hc, h32, hmax, hi => by
    have HX := hid hx
    by_cases h2 : n < 2
    · have HE := hid (wayL_small xs i (by omega))
      have t1 : decide ((n : Int) < 2) = true := by simp; omega
      clear hx hn h32 hc hf h2
      go_enter Try.func140, Try.ntmps140
      have HB := hid (grow_refl w)
      go_wp2_with fail
      go_ret
      exact ⟨_, rfl, by rw [HE.out]; exact nilOwn _ _, HB.out⟩
    · have h2' : 2 ≤ xs.length := by omega
      have hk := halfN_lt h2'
      have HE0 := wayL_two xs i h2'
      rw [hn] at hk HE0
      obtain ⟨k, hkk⟩ : ∃ k, k = halfN n := ⟨_, rfl⟩
      rw [← hkk] at hk HE0
      have t1 : decide ((n : Int) < 2) = false := by simp; omega
      obtain ⟨ad, rfl, _⟩ := hx.at_ 0 (by omega)
      obtain ⟨f2, rfl⟩ : ∃ f2, f = f2 + 1 := ⟨f - 1, by omega⟩
      have HH := hid (fun w => mkHalf n (by omega) w)
      rw [← hkk] at HH
      have hs1 := run_idsTo (ad := ad) (n := n) (c := c) (k := k) (by omega)
      have hs2 := run_idsFrom (ad := ad) (n := n) (c := c) (k := k) (by omega) hc (by omega)
      by_cases hik : i < k
      · have HE := hid HE0
        rw [if_pos hik] at HE
        have HW := hid (fun w (h : IdRow w (some ad) xs) => mkWay f2 (some ad) k c (xs.take k) i w (by rw [List.length_take]; omega) (idRow_take h k) (by rw [List.length_take]; omega) (by omega) (fun s hs => h32 s (List.mem_of_mem_take hs)) (by omega) hi)
        have HR := hid (fun w (h : IdRow w (some ad) xs) => mkRoot f2 (some (ad.add (k * 32))) (n - k) (c - k) (xs.drop k) w (by rw [List.length_drop]; omega) (idRow_drop h k) (by rw [List.length_drop]; omega) (by omega) (fun s hs => h32 s (List.mem_of_mem_drop hs)) (by omega))
        have HLN := hid (show (wayL (xs.take k) i).length + 1 ≤ 1000000000 by have := wayL_len (xs.take k) i; rw [List.length_take] at this; omega)
        have L2 := hid (rootL_length (xs.drop k))
        have t2 : decide (i < k) = true := by simp; omega
        obtain ⟨n2, hn2⟩ : ∃ m, m = n - k := ⟨_, rfl⟩
        obtain ⟨c2, hc2⟩ : ∃ m, m = c - k := ⟨_, rfl⟩
        obtain ⟨ad2, had2⟩ : ∃ a, a = ad.add (k * 32) := ⟨_, rfl⟩
        rw [← hn2, ← hc2, ← had2] at hs2 HR
        clear hx hn h32 hc hf h2 h2' hk hkk hn2 hc2 had2 HE0 hik
        generalize wayL (xs.take k) i = y at *
        generalize rootL (xs.drop k) = r at *
        go_enter Try.func140, Try.ntmps140
        have HB := hid (grow_refl w)
        go_wp2_with fail
        refine (HH.out _).mono ?_
        rintro e w1 ⟨rfl, hb⟩
        replace HB := hid (Grow.trans HB.out hb)
        clear hb
        go_wp2_with fail
        refine wp_region_pick [0, 1, 2, 3, 5, 6, 7] [4, 8, 9, 10, 11] rfl (by kernel_rfl) rfl (by kernel_rfl) ?_
        (refine' pick_val (by rfl) ?pw1 ?pr1 ?pq1 ?ph1; (case' pw1 => rfl); (case' pq1 => (exact fun _ _ _ h => h)); (case' pr1 => (intro w'; go_simp; with_reducible rfl)); (case' ph1 => (try simp only [List.getElem_toArray, List.getElem_cons_zero, List.getElem_cons_succ, Act.put, List.setIfInBounds_toArray, List.set_cons_zero, List.set_cons_succ]))); (refine' pick_val (by rfl) ?pw2 ?pr2 ?pq2 ?ph2; (case' pw2 => rfl); (case' pq2 => (exact fun _ _ _ h => h)); (case' pr2 => (intro w'; go_simp; with_reducible rfl)); (case' ph2 => (try simp only [List.getElem_toArray, List.getElem_cons_zero, List.getElem_cons_succ, Act.put, List.setIfInBounds_toArray, List.set_cons_zero, List.set_cons_succ]))); (refine' pick_val (by rfl) ?pw3 ?pr3 ?pq3 ?ph3; (case' pw3 => rfl); (case' pq3 => (exact fun _ _ _ h => h)); (case' pr3 => (intro w'; go_simp; with_reducible rfl)); (case' ph3 => (try simp only [List.getElem_toArray, List.getElem_cons_zero, List.getElem_cons_succ, Act.put, List.setIfInBounds_toArray, List.set_cons_zero, List.set_cons_succ]))); (refine' pick_val (by rfl) ?pw4 ?pr4 ?pq4 ?ph4; (case' pw4 => rfl); (case' pq4 => (exact fun _ _ _ h => h)); (case' pr4 => (intro w'; go_simp; with_reducible rfl)); (case' ph4 => (try simp only [List.getElem_toArray, List.getElem_cons_zero, List.getElem_cons_succ, Act.put, List.setIfInBounds_toArray, List.set_cons_zero, List.set_cons_succ]))); (refine' pick_val (by rfl) ?pw5 ?pr5 ?pq5 ?ph5; (case' pw5 => rfl); (case' pq5 => (exact fun _ _ _ h => h)); (case' pr5 => (intro w'; go_simp; with_reducible rfl)); (case' ph5 => (try simp only [List.getElem_toArray, List.getElem_cons_zero, List.getElem_cons_succ, Act.put, List.setIfInBounds_toArray, List.set_cons_zero, List.set_cons_succ]))); (refine' pick_val (by rfl) ?pw6 ?pr6 ?pq6 ?ph6; (case' pw6 => rfl); (case' pq6 => (exact fun _ _ _ h => h)); (case' pr6 => (intro w'; go_simp; with_reducible rfl)); (case' ph6 => (try simp only [List.getElem_toArray, List.getElem_cons_zero, List.getElem_cons_succ, Act.put, List.setIfInBounds_toArray, List.set_cons_zero, List.set_cons_succ]))); (refine' pick_val (by rfl) ?pw7 ?pr7 ?pq7 ?ph7; (case' pw7 => rfl); (case' pq7 => (exact fun _ _ _ h => h)); (case' pr7 => (intro w'; go_simp; with_reducible rfl)); (case' ph7 => (try simp only [List.getElem_toArray, List.getElem_cons_zero, List.getElem_cons_succ, Act.put, List.setIfInBounds_toArray, List.set_cons_zero, List.set_cons_succ])))
        (refine pick_nil ?_; show wpList _ _ _ (_ :: _ :: _ :: _ :: _ :: []) _ _)
        have hb := grow_drawn w1
        generalize ({ w1 with drawn := w1.drawn + 1 } : World) = w6 at *
        replace HB := hid (Grow.trans HB.out hb)
        clear hb hs1 hs2
        go_wp2_with fail
        refine (HW.out _ (HX.out.grow HB.out)).mono ?_
        rintro e w7 ⟨v, rfl, ho, hb⟩
        have HO := hid (ho.base HB.out.size)
        replace HB := hid (Grow.trans HB.out hb)
        clear ho hb
        go_wp2_with fail
        refine (HR.out _ (HX.out.grow HB.out)).mono ?_
        rintro e w8 ⟨rfl, hb⟩
        replace HO := hid (HO.out.grow hb)
        replace HB := hid (Grow.trans HB.out hb)
        clear hb
        go_wp2_with (refine op_appIds1 (l1 := r) rfl rfl rfl rfl rfl rfl (fun _ => rfl) (fun _ => rfl) L2.out HO.out HB.out HB.out.size HLN.out ?_)
        intro u v' w9 ho hb hs
        have HO9 := hid ho
        have HB9 := hid hb
        clear ho hb hs HO HB
        go_wp2_with fail
        go_ret
        exact ⟨_, rfl, by rw [HE.out]; exact HO9.out, HB9.out⟩
      · have HE := hid HE0
        rw [if_neg hik] at HE
        obtain ⟨i2, hi2⟩ : ∃ q, q = i - k := ⟨_, rfl⟩
        rw [← hi2] at HE
        have HW := hid (fun w (h : IdRow w (some ad) xs) => mkWay f2 (some (ad.add (k * 32))) (n - k) (c - k) (xs.drop k) i2 w (by rw [List.length_drop]; omega) (idRow_drop h k) (by rw [List.length_drop]; omega) (by omega) (fun s hs => h32 s (List.mem_of_mem_drop hs)) (by omega) (by omega))
        have HR := hid (fun w (h : IdRow w (some ad) xs) => mkRoot f2 (some ad) k c (xs.take k) w (by rw [List.length_take]; omega) (idRow_take h k) (by rw [List.length_take]; omega) (by omega) (fun s hs => h32 s (List.mem_of_mem_take hs)) (by omega))
        have HLN := hid (show (wayL (xs.drop k) i2).length + 1 ≤ 1000000000 by have := wayL_len (xs.drop k) i2; rw [List.length_drop] at this; omega)
        have L2 := hid (rootL_length (xs.take k))
        have t2 : decide (i < k) = false := by simp; omega
        have hsub : (i : Int) - (k : Int) = (i2 : Int) := by omega
        have wi := wrap_nat i2 (by omega)
        obtain ⟨n2, hn2⟩ : ∃ m, m = n - k := ⟨_, rfl⟩
        obtain ⟨c2, hc2⟩ : ∃ m, m = c - k := ⟨_, rfl⟩
        obtain ⟨ad2, had2⟩ : ∃ a, a = ad.add (k * 32) := ⟨_, rfl⟩
        rw [← hn2, ← hc2, ← had2] at hs2 HW
        clear hx hn h32 hc hf h2 h2' hk hkk hn2 hc2 had2 HE0 hik hi2
        generalize wayL (xs.drop k) i2 = y at *
        generalize rootL (xs.take k) = r at *
        go_enter Try.func140, Try.ntmps140
        have HB := hid (grow_refl w)
        go_wp2_with fail
        refine (HH.out _).mono ?_
        rintro e w2 ⟨rfl, hb⟩
        replace HB := hid (Grow.trans HB.out hb)
        clear hb
        go_wp2_with fail
        refine wp_region_pick [0, 1, 2, 3, 4, 5, 7, 8, 9] [6, 10, 11, 12, 13] rfl (by kernel_rfl) rfl (by kernel_rfl) ?_
        (refine' pick_val (by rfl) ?pw8 ?pr8 ?pq8 ?ph8; (case' pw8 => rfl); (case' pq8 => (exact fun _ _ _ h => h)); (case' pr8 => (intro w'; go_simp; with_reducible rfl)); (case' ph8 => (try simp only [List.getElem_toArray, List.getElem_cons_zero, List.getElem_cons_succ, Act.put, List.setIfInBounds_toArray, List.set_cons_zero, List.set_cons_succ]))); (refine' pick_val (by rfl) ?pw9 ?pr9 ?pq9 ?ph9; (case' pw9 => rfl); (case' pq9 => (exact fun _ _ _ h => h)); (case' pr9 => (intro w'; go_simp; with_reducible rfl)); (case' ph9 => (try simp only [List.getElem_toArray, List.getElem_cons_zero, List.getElem_cons_succ, Act.put, List.setIfInBounds_toArray, List.set_cons_zero, List.set_cons_succ]))); (refine' pick_val (by rfl) ?pw10 ?pr10 ?pq10 ?ph10; (case' pw10 => rfl); (case' pq10 => (exact fun _ _ _ h => h)); (case' pr10 => (intro w'; go_simp; with_reducible rfl)); (case' ph10 => (try simp only [List.getElem_toArray, List.getElem_cons_zero, List.getElem_cons_succ, Act.put, List.setIfInBounds_toArray, List.set_cons_zero, List.set_cons_succ]))); (refine' pick_val (by rfl) ?pw11 ?pr11 ?pq11 ?ph11; (case' pw11 => rfl); (case' pq11 => (exact fun _ _ _ h => h)); (case' pr11 => (intro w'; go_simp; with_reducible rfl)); (case' ph11 => (try simp only [List.getElem_toArray, List.getElem_cons_zero, List.getElem_cons_succ, Act.put, List.setIfInBounds_toArray, List.set_cons_zero, List.set_cons_succ]))); (refine' pick_val (by rfl) ?pw12 ?pr12 ?pq12 ?ph12; (case' pw12 => rfl); (case' pq12 => (exact fun _ _ _ h => h)); (case' pr12 => (intro w'; go_simp; with_reducible rfl)); (case' ph12 => (try simp only [List.getElem_toArray, List.getElem_cons_zero, List.getElem_cons_succ, Act.put, List.setIfInBounds_toArray, List.set_cons_zero, List.set_cons_succ]))); (refine' pick_val (by rfl) ?pw13 ?pr13 ?pq13 ?ph13; (case' pw13 => rfl); (case' pq13 => (exact fun _ _ _ h => h)); (case' pr13 => (intro w'; go_simp; with_reducible rfl)); (case' ph13 => (try simp only [List.getElem_toArray, List.getElem_cons_zero, List.getElem_cons_succ, Act.put, List.setIfInBounds_toArray, List.set_cons_zero, List.set_cons_succ]))); (refine' pick_val (by rfl) ?pw14 ?pr14 ?pq14 ?ph14; (case' pw14 => rfl); (case' pq14 => (exact fun _ _ _ h => h)); (case' pr14 => (intro w'; go_simp; with_reducible rfl)); (case' ph14 => (try simp only [List.getElem_toArray, List.getElem_cons_zero, List.getElem_cons_succ, Act.put, List.setIfInBounds_toArray, List.set_cons_zero, List.set_cons_succ]))); (refine' pick_val (by rfl) ?pw15 ?pr15 ?pq15 ?ph15; (case' pw15 => rfl); (case' pq15 => (exact fun _ _ _ h => h)); (case' pr15 => (intro w'; go_simp; with_reducible rfl)); (case' ph15 => (try simp only [List.getElem_toArray, List.getElem_cons_zero, List.getElem_cons_succ, Act.put, List.setIfInBounds_toArray, List.set_cons_zero, List.set_cons_succ]))); (refine' pick_val (by rfl) ?pw16 ?pr16 ?pq16 ?ph16; (case' pw16 => rfl); (case' pq16 => (exact fun _ _ _ h => h)); (case' pr16 => (intro w'; go_simp; with_reducible rfl)); (case' ph16 => (try simp only [List.getElem_toArray, List.getElem_cons_zero, List.getElem_cons_succ, Act.put, List.setIfInBounds_toArray, List.set_cons_zero, List.set_cons_succ])))
        (refine pick_nil ?_; show wpList _ _ _ (_ :: _ :: _ :: _ :: _ :: []) _ _)
        have hb := grow_drawn w2
        generalize ({ w2 with drawn := w2.drawn + 1 } : World) = w6 at *
        replace HB := hid (Grow.trans HB.out hb)
        clear hb hs1 hs2 hsub wi
        go_wp2_with fail
        refine (HW.out _ (HX.out.grow HB.out)).mono ?_
        rintro e w7 ⟨v, rfl, ho, hb⟩
        have HO := hid (ho.base HB.out.size)
        replace HB := hid (Grow.trans HB.out hb)
        clear ho hb
        go_wp2_with fail
        refine (HR.out _ (HX.out.grow HB.out)).mono ?_
        rintro e w8 ⟨rfl, hb⟩
        replace HO := hid (HO.out.grow hb)
        replace HB := hid (Grow.trans HB.out hb)
        clear hb
        go_wp2_with (refine op_appIds1 (l1 := r) rfl rfl rfl rfl rfl rfl (fun _ => rfl) (fun _ => rfl) L2.out HO.out HB.out HB.out.size HLN.out ?_)
        intro u v' w9 ho hb hs
        have HO9 := hid ho
        have HB9 := hid hb
        clear ho hb hs HO HB
        go_wp2_with fail
        go_ret
        exact ⟨_, rfl, by rw [HE.out]; exact HO9.out, HB9.out⟩
/-- A place's cells. -/
def placeC (l : List UInt8) (i : Int) (v : Value) : List Value := u8s l ++ [.int .i64 i, v]
theorem run_buildPlace (l : List UInt8) (hl : l.length = 32) (i : Int) (A : Option Addr) (m c : Nat) (w : World) :
    (Instr.build 70 #[(0, idV l), (1, .int .i64 i), (2, .slice A m c)]).run Try.prog w = .ok (.agg (placeC l i (.slice A m c)).toArray) w := by
  obtain ⟨b0, l0, rfl⟩ := List.exists_cons_of_length_eq_add_one hl
  have h0 : l0.length = 31 := by simpa using hl
  obtain ⟨b1, l1, rfl⟩ := List.exists_cons_of_length_eq_add_one h0
  have h1 : l1.length = 30 := by simpa using h0
  obtain ⟨b2, l2, rfl⟩ := List.exists_cons_of_length_eq_add_one h1
  have h2 : l2.length = 29 := by simpa using h1
  obtain ⟨b3, l3, rfl⟩ := List.exists_cons_of_length_eq_add_one h2
  have h3 : l3.length = 28 := by simpa using h2
  obtain ⟨b4, l4, rfl⟩ := List.exists_cons_of_length_eq_add_one h3
  have h4 : l4.length = 27 := by simpa using h3
  obtain ⟨b5, l5, rfl⟩ := List.exists_cons_of_length_eq_add_one h4
  have h5 : l5.length = 26 := by simpa using h4
  obtain ⟨b6, l6, rfl⟩ := List.exists_cons_of_length_eq_add_one h5
  have h6 : l6.length = 25 := by simpa using h5
  obtain ⟨b7, l7, rfl⟩ := List.exists_cons_of_length_eq_add_one h6
  have h7 : l7.length = 24 := by simpa using h6
  obtain ⟨b8, l8, rfl⟩ := List.exists_cons_of_length_eq_add_one h7
  have h8 : l8.length = 23 := by simpa using h7
  obtain ⟨b9, l9, rfl⟩ := List.exists_cons_of_length_eq_add_one h8
  have h9 : l9.length = 22 := by simpa using h8
  obtain ⟨b10, l10, rfl⟩ := List.exists_cons_of_length_eq_add_one h9
  have h10 : l10.length = 21 := by simpa using h9
  obtain ⟨b11, l11, rfl⟩ := List.exists_cons_of_length_eq_add_one h10
  have h11 : l11.length = 20 := by simpa using h10
  obtain ⟨b12, l12, rfl⟩ := List.exists_cons_of_length_eq_add_one h11
  have h12 : l12.length = 19 := by simpa using h11
  obtain ⟨b13, l13, rfl⟩ := List.exists_cons_of_length_eq_add_one h12
  have h13 : l13.length = 18 := by simpa using h12
  obtain ⟨b14, l14, rfl⟩ := List.exists_cons_of_length_eq_add_one h13
  have h14 : l14.length = 17 := by simpa using h13
  obtain ⟨b15, l15, rfl⟩ := List.exists_cons_of_length_eq_add_one h14
  have h15 : l15.length = 16 := by simpa using h14
  obtain ⟨b16, l16, rfl⟩ := List.exists_cons_of_length_eq_add_one h15
  have h16 : l16.length = 15 := by simpa using h15
  obtain ⟨b17, l17, rfl⟩ := List.exists_cons_of_length_eq_add_one h16
  have h17 : l17.length = 14 := by simpa using h16
  obtain ⟨b18, l18, rfl⟩ := List.exists_cons_of_length_eq_add_one h17
  have h18 : l18.length = 13 := by simpa using h17
  obtain ⟨b19, l19, rfl⟩ := List.exists_cons_of_length_eq_add_one h18
  have h19 : l19.length = 12 := by simpa using h18
  obtain ⟨b20, l20, rfl⟩ := List.exists_cons_of_length_eq_add_one h19
  have h20 : l20.length = 11 := by simpa using h19
  obtain ⟨b21, l21, rfl⟩ := List.exists_cons_of_length_eq_add_one h20
  have h21 : l21.length = 10 := by simpa using h20
  obtain ⟨b22, l22, rfl⟩ := List.exists_cons_of_length_eq_add_one h21
  have h22 : l22.length = 9 := by simpa using h21
  obtain ⟨b23, l23, rfl⟩ := List.exists_cons_of_length_eq_add_one h22
  have h23 : l23.length = 8 := by simpa using h22
  obtain ⟨b24, l24, rfl⟩ := List.exists_cons_of_length_eq_add_one h23
  have h24 : l24.length = 7 := by simpa using h23
  obtain ⟨b25, l25, rfl⟩ := List.exists_cons_of_length_eq_add_one h24
  have h25 : l25.length = 6 := by simpa using h24
  obtain ⟨b26, l26, rfl⟩ := List.exists_cons_of_length_eq_add_one h25
  have h26 : l26.length = 5 := by simpa using h25
  obtain ⟨b27, l27, rfl⟩ := List.exists_cons_of_length_eq_add_one h26
  have h27 : l27.length = 4 := by simpa using h26
  obtain ⟨b28, l28, rfl⟩ := List.exists_cons_of_length_eq_add_one h27
  have h28 : l28.length = 3 := by simpa using h27
  obtain ⟨b29, l29, rfl⟩ := List.exists_cons_of_length_eq_add_one h28
  have h29 : l29.length = 2 := by simpa using h28
  obtain ⟨b30, l30, rfl⟩ := List.exists_cons_of_length_eq_add_one h29
  have h30 : l30.length = 1 := by simpa using h29
  obtain ⟨b31, l31, rfl⟩ := List.exists_cons_of_length_eq_add_one h30
  have h31 : l31.length = 0 := by simpa using h30
  obtain rfl : l31 = [] := List.eq_nil_of_length_eq_zero h31
  exact run_build w _ _ _ (by kernel_rfl)
theorem placeC_length (l : List UInt8) (hl : l.length = 32) (i : Int) (v : Value) : (placeC l i v).length = 34 := by simp [placeC, u8s_length, hl]
theorem placeC_one (l : List UInt8) (i : Int) (A : Option Addr) (m c : Nat) : ∀ u ∈ placeC l i (.slice A m c), u.oneCell' = true := by
  intro u hu
  rcases List.mem_append.1 hu with h | h
  · exact u8s_one _ _ h
  · simp at h
    rcases h with rfl | rfl <;> rfl
theorem infoPlace : (Try.prog.info? 70).map (·.size) = some 34 := by kernel_rfl
end Go.Proofs.Ytffgifegaagndaa
