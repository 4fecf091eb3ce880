/- The law PackWrites: walk. -/
import Derived.Test.YtkbapegohodcgaaQPacA
import Derived.Test.YtkbapegohodcgaaQPac5
set_option linter.unusedSimpArgs false
set_option linter.unusedVariables false
namespace Go.Proofs.Ytkbapegohodcgaa
open Go.RowKit
open Go.Qk hiding rotr b4
open Pac
set_option maxHeartbeats 4000000
set_option maxRecDepth 100000
structure PwF (L : List UInt8) (b : UInt8) (num S a : List UInt8) (t : Bool) (xs : List (List UInt8)) (ms : List ByteArray) : Prop where
  len : L.length ≤ 100000
  all : L = [b] ++ num ++ (encN S.length ++ S) ++ a ++ [truthB t] ++ (encN xs.length ++ xs.flatten) ++ (encN ms.length ++ encTs ms)
theorem pwF (b : UInt8) (num S a : List UInt8) (t : Bool) (xs : List (List UInt8)) (ms : List ByteArray) (hn : num.length ≤ 10) (hS : S.length ≤ 300) (ha : a.length = 32) (hx : xs.length ≤ 20) (h32 : ∀ s ∈ xs, s.length = 32) (hm : ms.length ≤ 20) (h100 : ∀ s ∈ ms, s.size ≤ 100) :
    ∃ L, PwF L b num S a t xs ms := by
  refine ⟨_, ⟨?_, rfl⟩⟩
  have h1 := encN_ten S.length (by omega)
  have h2 := encN_ten xs.length (by omega)
  have h3 := encN_ten ms.length (by omega)
  have h4 := flatten_take_len xs h32 xs.length (Nat.le_refl _)
  rw [List.take_length] at h4
  have h5 := encTs_len ms 100 (by omega) h100
  have h6 : ms.length * (100 + 10) ≤ 20 * 110 := Nat.mul_le_mul hm (Nat.le_refl _)
  simp only [List.length_append, List.length_singleton]
  omega
theorem packWrites_long (b : Int) (v : Int) (S : List UInt8) (hS9 : S.length ≤ 140737488355328) (a : List UInt8) (ha : a.length = 32) (t : Bool) (A C : Option Addr) (n c m d : Nat) (xs : List (List UInt8)) (ms : List ByteArray) (w : World) (hn9 : n ≤ 9223372036854775807) (hm9 : m ≤ 9223372036854775807) (hlong : 300 < S.length ∨ 20 < n ∨ 20 < m) :
    Calls Try.prog 5 #[.int .u8 b, .int .i64 v, .string (bs S), idV a, .bool t, .slice A n c, .slice C m d] w fun e w' => e = .returned (.bool true) ∧ Below w.heap.size w w' := by
  have hsz := bs_size S
  have HA := hid ha
  by_cases h1 : 300 < S.length
  · clear hlong ha
    go_enter Try.func5, Try.ntmps5
    have HB := hid (grow_refl w)
    apply wp_seq_k; intro _ _; apply wp_region_lit
    refine op_box (l := a) rfl rfl rfl ?_
    intro gb w1 hgl hgu hb hr
    have BXL := hid (Nat.le_trans HB.out.size hgl)
    replace HB := hid (Grow.trans HB.out hb)
    have BX := hid hr; have BXU := hid hgu
    clear hr hgl hgu hb
    try simp only [Act.put, List.setIfInBounds_toArray, List.set_cons_zero, List.set_cons_succ]
    go_wp2_with fail
    refine (awake05 _).mono ?_
    rintro e w2 ⟨rfl, hb⟩
    replace HB := hid (Grow.trans HB.out hb)
    replace BX := hid (grow_block BX.out hb)
    clear hb
    go_wp2_with fail
    go_ret
    exact ⟨rfl, HB.out⟩
  · by_cases h2 : 20 < n
    · have h1' : S.length ≤ 300 := by omega
      clear hlong ha h1
      go_enter Try.func5, Try.ntmps5
      have HB := hid (grow_refl w)
      apply wp_seq_k; intro _ _; apply wp_region_lit
      refine op_box (l := a) rfl rfl rfl ?_
      intro gb w3 hgl hgu hb hr
      have BXL := hid (Nat.le_trans HB.out.size hgl)
      replace HB := hid (Grow.trans HB.out hb)
      have BX := hid hr; have BXU := hid hgu
      clear hr hgl hgu hb
      try simp only [Act.put, List.setIfInBounds_toArray, List.set_cons_zero, List.set_cons_succ]
      go_wp2_with fail
      refine (awake05 _).mono ?_
      rintro e w4 ⟨rfl, hb⟩
      replace HB := hid (Grow.trans HB.out hb)
      replace BX := hid (grow_block BX.out hb)
      clear hb
      go_wp2_with fail
      go_ret
      exact ⟨rfl, HB.out⟩
    · have h3 : 20 < m := by omega
      have h1' : S.length ≤ 300 := by omega
      have h2' : n ≤ 20 := by omega
      clear hlong ha h1 h2
      go_enter Try.func5, Try.ntmps5
      have HB := hid (grow_refl w)
      apply wp_seq_k; intro _ _; apply wp_region_lit
      refine op_box (l := a) rfl rfl rfl ?_
      intro gb w5 hgl hgu hb hr
      have BXL := hid (Nat.le_trans HB.out.size hgl)
      replace HB := hid (Grow.trans HB.out hb)
      have BX := hid hr; have BXU := hid hgu
      clear hr hgl hgu hb
      try simp only [Act.put, List.setIfInBounds_toArray, List.set_cons_zero, List.set_cons_succ]
      go_wp2_with fail
      refine (awake05 _).mono ?_
      rintro e w6 ⟨rfl, hb⟩
      replace HB := hid (Grow.trans HB.out hb)
      replace BX := hid (grow_block BX.out hb)
      clear hb
      go_wp2_with fail
      go_ret
      exact ⟨rfl, HB.out⟩
def AtG (g : Nat) (L : List UInt8) (p q : Nat) (f : FuncId) (args : Array Value) (V : Value → World → World → Prop) : Prop := ∀ w, w.heap[g]? = some (rdOb L p 0) → Calls Try.prog f args w fun r w' => ∃ v, r = .returned v ∧ V v w w' ∧ w'.heap[g]? = some (rdOb L q 0) ∧ Fr (fun k => k = g) w w'
theorem atG {g : Nat} {L : List UInt8} {p q : Nat} {f : FuncId} {args : Array Value} {u : Value} (h : ∀ w, w.heap[g]? = some (rdOb L p 0) → Calls Try.prog f args w fun r w' => r = .returned u ∧ w'.heap[g]? = some (rdOb L q 0) ∧ Fr (fun k => k = g) w w') : AtG g L p q f args (fun v _ _ => v = u) := fun w hg => (h w hg).mono fun r w' ⟨h1, h2, h3⟩ => ⟨u, h1, rfl, h2, h3⟩
structure PwC (g : Nat) (L : List UInt8) (b : UInt8) (num S a : List UInt8) (t : Bool) (xs : List (List UInt8)) (ms : List ByteArray) (p1 p2 p3 p4 p5 : Nat) : Prop where
  c1 : AtG g L 0 1 41 #[ptrV g] (fun v _ _ => v = .int .u8 (b.toNat : Int))
  e1 : p1 = 1 + num.length
  dn : ∃ Y, L.drop 1 = num ++ Y
  l1 : 1 ≤ L.length
  c3 : AtG g L p1 p2 28 #[ptrV g, .int .i64 (S.length : Int)] (fun v _ _ => v = .string (bs S))
  c4 : AtG g L p2 p3 42 #[ptrV g] (fun v _ _ => v = idV a)
  c5 : AtG g L p3 p4 43 #[ptrV g] (fun v _ _ => v = .bool t)
  c6 : AtG g L p4 p5 45 #[ptrV g, .int .i64 (xs.length : Int)] (fun v w w' => OwnIds 45 w.heap.size w' v xs)
  c7 : AtG g L p5 L.length 47 #[ptrV g, .int .i64 (ms.length : Int), .int .i64 (100 : Int)] (fun v w w' => w'.ownsRow w.heap.size 9 1 v ms.length (ms.map Value.string))
theorem pwC (g : Nat) {L : List UInt8} {b : UInt8} {num S a : List UInt8} {t : Bool} {xs : List (List UInt8)} {ms : List ByteArray} (h : PwF L b num S a t xs ms) (hS : S.length ≤ 300) (ha : a.length = 32) (hx : xs.length ≤ 20) (h32 : ∀ s ∈ xs, s.length = 32) (hm : ms.length ≤ 20) (h100 : ∀ s ∈ ms, s.size ≤ 100) :
    ∃ p1 p2 p3 p4 p5, PwC g L b num S a t xs ms p1 p2 p3 p4 p5 := by
  have hL := h.len
  have hl := h.all
  simp only [List.append_assoc] at hl
  have d0 : L.drop 0 = [b] ++ (num ++ ((encN S.length ++ S) ++ (a ++ ([truthB t] ++ ((encN xs.length ++ xs.flatten) ++ ((encN ms.length ++ encTs ms) ++ [])))))) := by
    rw [List.drop_zero, hl]; simp only [List.append_assoc, List.append_nil]
  have d1 := drop_next d0
  have n0 := drop_len (Nat.zero_le _) d0
  have d2 := drop_next d1
  have n1 := drop_len (by omega) d1
  have d3 := drop_next d2
  have n2 := drop_len (by omega) d2
  have d4 := drop_next d3
  have n3 := drop_len (by omega) d3
  have d5 := drop_next d4
  have n4 := drop_len (by omega) d4
  have d6 := drop_next d5
  have n5 := drop_len (by omega) d5
  have n6 := drop_len (by omega) d6
  have q0 : 0 + [b].length = 1 := rfl
  rw [q0] at d1 d2 d3 d4 d5 d6 n0 n1 n2 n3 n4 n5 n6
  generalize hp1 : 1 + num.length = p1 at *
  generalize hp2 : p1 + (encN S.length ++ S).length = p2 at *
  rw [ha] at d4 d5 d6 n3 n4 n5 n6
  generalize hp3 : p2 + 32 = p3 at *
  have q1 : p3 + [truthB t].length = p3 + 1 := rfl
  rw [q1] at d5 d6 n4 n5 n6
  generalize hp4 : p3 + 1 = p4 at *
  generalize hp5 : p4 + (encN xs.length ++ xs.flatten).length = p5 at *
  have d5a : L.drop p4 = encN xs.length ++ (xs.flatten ++ ((encN ms.length ++ encTs ms) ++ [])) := by rw [d5, List.append_assoc]
  have d5b := drop_next d5a
  have n5a := drop_len (by omega) d5a
  have d6a : L.drop p5 = encN ms.length ++ (encTs ms ++ []) := by rw [d6, List.append_assoc]
  have d6b := drop_next d6a
  have n6a := drop_len (by omega) d6a
  have hfl := flatten_take_len xs h32 xs.length (Nat.le_refl _)
  rw [List.take_length] at hfl
  refine ⟨p1, p2, p3, p4, p5, ⟨atG (fun w hg => rdByte g L 0 b _ (by rw [d0]; rfl) (by omega) w hg), hp1.symm, ⟨_, d1⟩, by omega, ?_, ?_, ?_, ?_, ?_⟩⟩
  · refine atG fun w hg => ?_
    have := rdText g L p1 S.length (by omega) (by omega) w hg
    rw [textR_at (by omega) d2 (Nat.le_refl _) (by omega), hp2] at this
    exact this
  · refine atG fun w hg => ?_
    have := rdId g L p2 a (by rw [d3, ← ha, List.take_left]) ha (by omega) (by omega) w hg
    rw [hp3] at this
    exact this
  · refine atG fun w hg => ?_
    have := rdTruth g L p3 t _ (by rw [d4]; rfl) (by omega) w hg
    rw [hp4] at this
    exact this
  · intro w hg
    have := rdIdsR g L p4 xs.length (encN xs.length).length xs (by omega) (by omega) (numR_at (by omega) d5a) (by omega) (Nat.le_refl _) h32 (fun k hk => flat_at xs h32 (by omega) d5b k hk) w hg
    rw [show p4 + (encN xs.length).length + 32 * xs.length = p5 by rw [← hp5, List.length_append, hfl, Nat.add_assoc]] at this
    exact this
  · intro w hg
    have := rdTextsR g L p5 ms.length 100 (encN ms.length).length (fun k => p5 + (encN ms.length).length + (encTs (ms.take k)).length) ms (by omega) (by omega) (numR_at (by omega) d6a) (by omega) (Nat.le_refl _) rfl (fun k hk => texts_at ms 100 (by decide) h100 (by omega) d6b k hk) w hg
    simp only [List.take_length] at this
    rw [show p5 + (encN ms.length).length + (encTs ms).length = L.length by simp only [List.length_append, List.length_nil] at n6a; omega] at this
    exact this
theorem packWrites_ok (b : UInt8) (v : Nat) (hv : v ≤ 4611686018427387904) (S : List UInt8) (hS : S.length ≤ 300) (a : List UInt8) (ha : a.length = 32) (t : Bool) (A C : Option Addr) (n c m d : Nat) (xs : List (List UInt8)) (ms : List ByteArray) (w : World) (hx : IdRow w A xs) (hn : xs.length = n) (h32 : ∀ s ∈ xs, s.length = 32) (hy : StrRow w C ms) (hm : ms.length = m) (hsa : ∀ s ∈ ms, s.size ≤ 9223372036854775807) (hn20 : n ≤ 20) (hm20 : m ≤ 20) :
    Calls Try.prog 5 #[.int .u8 (b.toNat : Int), .int .i64 (v : Int), .string (bs S), idV a, .bool t, .slice A n c, .slice C m d] w fun e w' => e = .returned (.bool true) ∧ Below w.heap.size w w' := by
  subst hn hm
  have hsz := bs_size S
  have HX := hid hx
  have HY := hid hy
  have H32 := hid h32
  have HSA := hid hsa
  have HA := hid ha
  have HS3 := hid hS
  have HNUM : Hid ((encN v).length ≤ 10) := hid (encN_ten v hv)
  have v0 : (0 : Int) ≤ (v : Int) := by omega
  have v1 : (v : Int) ≤ 4611686018427387904 := by omega
  clear hx hy h32 hsa ha
  go_enter Try.func5, Try.ntmps5
  have HB := hid (grow_refl w)
  apply wp_seq_k; intro _ _; apply wp_region_lit
  refine op_box (l := a) rfl rfl rfl ?_
  intro gb w1 hgl hgu hb hr
  have BXL := hid (Nat.le_trans HB.out.size hgl)
  replace HB := hid (Grow.trans HB.out hb)
  replace HX := hid (HX.out.grow hb)
  replace HY := hid (HY.out.grow hb)
  have BX := hid hr; have BXU := hid hgu
  clear hr hgl hgu hb
  try simp only [Act.put, List.setIfInBounds_toArray, List.set_cons_zero, List.set_cons_succ]
  go_wp2_with fail
  have HLT := hid (Nat.lt_of_lt_of_le BXU.out (Nat.le_refl _))
  clear BXU
  go_loopg [16, 39] (ms.length + 1) (fun z y x wr => ∃ i : Nat, i ≤ ms.length ∧ z = ms.length + 1 - i ∧ x = .int .i64 (i : Int) ∧ Hid (∀ j, j < i → (ms.getD j ByteArray.empty).size ≤ 100) ∧ wr = w1)
  case atStart => exact ⟨0, by omega, by omega, rfl, hid (fun j hj => by omega), rfl⟩
  case round =>
    obtain ⟨i, hi, hz, rfl, H100, rfl⟩ := hrel
    by_cases hlt : i < ms.length
    · have i0 : (0 : Int) ≤ (i : Int) := by omega
      have i1 : (i : Int) < (ms.length : Int) := by omega
      obtain ⟨ad, rfl, hc⟩ := HY.out.at_ i hlt
      have HSI := hid (show (ms.getD i ByteArray.empty).size ≤ 9223372036854775807 from HSA.out _ (by rw [List.getD_eq_getElem?_getD, List.getElem?_eq_getElem hlt]; simp))
      by_cases h3 : 100 < (ms.getD i ByteArray.empty).size
      · have hb9 := HSI.out
        generalize ms.getD i ByteArray.empty = x at *
        go_wp2_with fail
        refine (awake05 _).mono ?_
        rintro e w2 ⟨rfl, hb⟩
        replace HB := hid (Grow.trans HB.out hb)
        replace HX := hid (HX.out.grow hb)
        replace HY := hid (HY.out.grow hb)
        replace BX := hid (grow_block BX.out hb)
        clear hb
        go_wp2_with fail
        go_ret
        exact ⟨rfl, HB.out⟩
      · have h3' : (ms.getD i ByteArray.empty).size ≤ 100 := by omega
        have HS1 := hid (show ∀ j, j < i + 1 → (ms.getD j ByteArray.empty).size ≤ 100 from fun k hk => by
          by_cases e : k = i
          · subst e; exact h3'
          · exact H100.out k (by omega))
        generalize ms.getD i ByteArray.empty = x at *
        go_wp2_with fail
        go_roundg (ms.length + 1 - (i + 1))
        case rel => exact ⟨i + 1, by omega, rfl, by go_num, HS1, rfl⟩
        case measure => omega
    · have HM1 := hid (show ∀ s ∈ ms, s.size ≤ 100 from fun s hs => by
        obtain ⟨j, hj, rfl⟩ := List.getElem_of_mem hs
        have := H100.out j (by omega)
        rwa [List.getD_eq_getElem?_getD, List.getElem?_eq_getElem hj] at this)
      obtain ⟨L, hpf⟩ := pwF b (encN v) S a t xs ms HNUM.out HS3.out HA.out hn20 H32.out hm20 HM1.out
      have HPF := hid hpf
      clear hpf
      obtain rfl : i = ms.length := by omega
      clear hlt
      clear H100
      have HB0 := hid (show Below w.heap.size w wr from HB.out)
      clear HB
      go_wp2_with (first | (refine op_boxC (cs := #[.slice none 0 0]) rfl rfl rfl rfl ?_) | fail)
      intro gw w2 hgl hgu hb hr
      have HW := hid (wr_new hgl hgu hr)
      have G := hid (show Below wr.heap.size wr w2 from hb)
      have HL0 := hid (show ([] : List UInt8).length ≤ 0 from Nat.le_refl _)
      clear hgl hgu hb hr
      have hel1 := encN_ten S.length (by have := HS3.out; omega)
      have hel2 := encN_ten xs.length (by omega)
      have hfl := flatten_take_len xs H32.out xs.length (Nat.le_refl _)
      rw [List.take_length] at hfl
      have HLB := hid (show ∀ x y z : List UInt8, x.length ≤ 1000 → y.length ≤ 1000 → z.length ≤ 700 → True from fun _ _ _ _ _ _ => trivial)
      clear HLB
      go_wp2_with fail
      refine (wrByte _ gw b [] _ (by simp) HW.out).mono ?_
      rintro _ w3 ⟨rfl, hw, hb⟩
      have HW3 := hid (show IsWr wr.heap.size w3 gw [b] from hw)
      have G3 := hid (Below.trans G.out hb)
      clear hw hb HW G
      go_wp2_with fail
      refine (wrNum _ gw v [b] _ hv (by simp) HW3.out).mono ?_
      rintro _ w4 ⟨rfl, hw, hb⟩
      have HW4 := hid hw
      have G4 := hid (Below.trans G3.out hb)
      clear hw hb HW3 G3
      obtain ⟨l4, hl4⟩ : ∃ l4, l4 = [b] ++ encN v := ⟨_, rfl⟩
      have HL4 := hid hl4
      have hb4 : l4.length ≤ 11 := by have := HNUM.out; rw [hl4, List.length_append, List.length_singleton]; omega
      rw [← hl4] at HW4
      clear hl4
      go_wp2_with fail
      refine (wrText _ gw S l4 _ (by have := HS3.out; omega) (by omega) HW4.out).mono ?_
      rintro _ w5 ⟨rfl, hw, hb⟩
      have G5 := hid (Below.trans G4.out hb)
      obtain ⟨l5, hl5⟩ : ∃ l5, l5 = l4 ++ (encN S.length ++ S) := ⟨_, rfl⟩
      have HL5 := hid hl5
      have hb5 : l5.length ≤ 400 := by have := HS3.out; rw [hl5]; simp only [List.length_append]; omega
      rw [← hl5] at hw
      have HW5 := hid hw
      clear hw hb HW4 G4 hl5
      have HX5 := hid (grow_block BX.out G5.out)
      go_wp2_with (first | (refine op_loadId rfl rfl rfl HX5.out HA.out ?_) | fail)
      refine (wrId _ gw a HA.out l5 _ (by omega) HW5.out).mono ?_
      rintro _ w6 ⟨rfl, hw, hb⟩
      have G6 := hid (Below.trans G5.out hb)
      obtain ⟨l6, hl6⟩ : ∃ l6, l6 = l5 ++ a := ⟨_, rfl⟩
      have HL6 := hid hl6
      have hb6 : l6.length ≤ 500 := by have := HA.out; rw [hl6]; simp only [List.length_append]; omega
      rw [← hl6] at hw
      have HW6 := hid hw
      clear hw hb HW5 G5 hl6 HX5
      go_wp2_with fail
      refine (wrTruth _ gw t l6 _ (by omega) HW6.out).mono ?_
      rintro _ w7 ⟨rfl, hw, hb⟩
      have G7 := hid (Below.trans G6.out hb)
      obtain ⟨l7, hl7⟩ : ∃ l7, l7 = l6 ++ [truthB t] := ⟨_, rfl⟩
      have HL7 := hid hl7
      have hb7 : l7.length ≤ 501 := by rw [hl7]; simp only [List.length_append, List.length_singleton]; omega
      rw [← hl7] at hw
      have HW7 := hid hw
      clear hw hb HW6 G6 hl7
      go_wp2_with fail
      refine (wrIds _ gw A _ c xs rfl H32.out (by omega) l7 _ (by omega) (fun w' hb => HX.out.grow (Below.trans G7.out hb)) HW7.out).mono ?_
      rintro _ w8 ⟨rfl, hw, hb⟩
      have G8 := hid (Below.trans G7.out hb)
      obtain ⟨l8, hl8⟩ : ∃ l8, l8 = l7 ++ (encN xs.length ++ xs.flatten) := ⟨_, rfl⟩
      have HL8 := hid hl8
      have hb8 : l8.length ≤ 2000 := by rw [hl8]; simp only [List.length_append]; omega
      rw [← hl8] at hw
      have HW8 := hid hw
      clear hw hb HW7 G7 hl8
      go_wp2_with fail
      refine (wrTexts _ gw C _ d ms rfl (fun s hs => Nat.le_trans (HM1.out s hs) (by decide)) (by omega) l8 _ (by omega) (fun w' hb => HY.out.grow (Below.trans G8.out hb)) HW8.out).mono ?_
      rintro _ w9 ⟨rfl, hw, hb⟩
      have G9 := hid (Below.trans G8.out hb)
      have HW9 := hid (show IsWr wr.heap.size w9 gw L by
        rw [HPF.out.all, ← HL4.out, ← HL5.out, ← HL6.out, ← HL7.out, ← HL8.out]
        exact hw)
      clear hw hb HW8 G8 hb4 hb5 hb6 hb7 hb8
      go_wp2_with fail
      refine (refNum05' v hv _).mono ?_
      rintro _ wA ⟨rfl, hb⟩
      have GA := hid (Grow.trans G9.out hb)
      have HWA := hid (HW9.out.grow hb)
      clear hb HW9 G9
      have T2 := hid (refText05 S (by have := HS3.out; omega))
      have T3 := hid (ref3Bytes a HA.out)
      have T4 := hid (refTruth05 t)
      have T5 := hid (fun w h => refIds05 A _ c xs w h rfl H32.out (by omega))
      have T6 := hid (fun w h => refTexts05 C _ d ms w h rfl (fun s hs => Nat.le_trans (HM1.out s hs) (by decide)) (by omega))
      have hts := encTs_len ms 100 (by omega) HM1.out
      have htm : ms.length * (100 + 10) ≤ 20 * 110 := Nat.mul_le_mul hm20 (Nat.le_refl _)
      have hel3 := encN_ten ms.length (by omega)
      have z0 : (bs [b]).size ≤ 1 := by rw [bs_size]; exact Nat.le_refl _
      have z1 : (bs (encN v)).size ≤ 10 := by rw [bs_size]; exact HNUM.out
      have z2 : (bs (encN S.length ++ S)).size ≤ 310 := by have := HS3.out; rw [bs_size, List.length_append]; omega
      have z3 : (bs a).size ≤ 32 := by rw [bs_size, HA.out]; exact Nat.le_refl _
      have z4 : (bs [truthB t]).size ≤ 1 := by rw [bs_size]; exact Nat.le_refl _
      have z5 : (bs (encN xs.length ++ xs.flatten)).size ≤ 650 := by rw [bs_size, List.length_append]; omega
      have z6 : (bs (encN ms.length ++ encTs ms)).size ≤ 2210 := by rw [bs_size, List.length_append]; omega
      have HALL := hid (show bs [b] ++ bs (encN v) ++ bs (encN S.length ++ S) ++ bs a ++ bs [truthB t] ++ bs (encN xs.length ++ xs.flatten) ++ bs (encN ms.length ++ encTs ms) = bs L by
        rw [HPF.out.all]
        simp only [bs_append])
      have hc0 : bs [b] = bs [b] := rfl
      clear hts htm hel3 hel1 hel2 hfl
      generalize hC0 : bs [b] = c0 at *
      have HC0 := hid hC0
      clear hC0 hc0
      generalize bs (encN v) = c1 at *
      generalize bs (encN S.length ++ S) = c2 at *
      generalize bs a = c3 at *
      generalize bs [truthB t] = c4 at *
      generalize bs (encN xs.length ++ xs.flatten) = c5 at *
      generalize bs (encN ms.length ++ encTs ms) = c6 at *
      have q1 : ¬ 9223372036854775807 < c0.size + c1.size := by omega
      have q2 : ¬ 9223372036854775807 < c0.size + c1.size + c2.size := by omega
      have q3 : ¬ 9223372036854775807 < c0.size + c1.size + c2.size + c3.size := by omega
      have q4 : ¬ 9223372036854775807 < c0.size + c1.size + c2.size + c3.size + c4.size := by omega
      have q5 : ¬ 9223372036854775807 < c0.size + c1.size + c2.size + c3.size + c4.size + c5.size := by omega
      have q6 : ¬ 9223372036854775807 < c0.size + c1.size + c2.size + c3.size + c4.size + c5.size + c6.size := by omega
      clear z0 z1 z2 z3 z4 z5 z6
      have BXA := hid (grow_block BX.out GA.out)
      go_wp2_with fail
      (refine' wp_region_head 21 0 [_, _, _, _, _, _, _, _, _, _, _, _, _, _, _, _, _, _, _, _, _] rfl (by kernel_rfl) (by kernel_rfl) ?hreg1; case' hreg1 => simp only [List.take_succ_cons, List.take_zero, List.zip_cons_cons, List.zip_nil_right, List.drop_succ_cons, List.drop_zero, List.drop_nil])
      (refine' head_val ?dw2 ?de2 ?dr2 ?dh2; (case' dw2 => rfl); (case' de2 => (first | exact fun _ _ _ => trivial | (intro t ht w; cases ht; simp [upE]))); (case' dr2 => (intro w' hw' _; go_simp; with_reducible rfl)); (case' dh2 => (try simp only [Act.put, List.setIfInBounds_toArray, List.set_cons_zero, List.set_cons_succ])))
      (refine' head_row [.int .u8 (b.toNat : Int)] 1 5 ?_ ?_ ?_; (· rfl); (· intro w; first | (go_simp; done) | (go_simp; first | with_reducible rfl | rfl)); intro g81; simp only [Act.put, List.setIfInBounds_toArray, List.set_cons_zero, List.set_cons_succ])
      (refine' head_conv (v := .string c0) ?dw3 ?de3 rfl ?dx3 ?dr3 ?dh3; (case' dw3 => rfl); (case' de3 => (first | exact fun _ _ _ => trivial | (intro t ht w; cases ht; simp [upE]))); (case' dx3 => rfl); (case' dr3 => (intro w' hw' hE; exact (by rw [← HC0.out]; exact convB (hE 81 (by decide))))); (case' dh3 => (try simp only [Act.put, List.setIfInBounds_toArray, List.set_cons_zero, List.set_cons_succ])))
      (refine' head_val ?dw4 ?de4 ?dr4 ?dh4; (case' dw4 => rfl); (case' de4 => (first | exact fun _ _ _ => trivial | (intro t ht w; cases ht; simp [upE]))); (case' dr4 => (intro w' hw' _; go_simp; with_reducible rfl)); (case' dh4 => (try simp only [Act.put, List.setIfInBounds_toArray, List.set_cons_zero, List.set_cons_succ]))); (refine' head_val ?dw5 ?de5 ?dr5 ?dh5; (case' dw5 => rfl); (case' de5 => (first | exact fun _ _ _ => trivial | (intro t ht w; cases ht; simp [upE]))); (case' dr5 => (intro w' hw' _; go_simp; with_reducible rfl)); (case' dh5 => (try simp only [Act.put, List.setIfInBounds_toArray, List.set_cons_zero, List.set_cons_succ]))); (refine' head_val ?dw6 ?de6 ?dr6 ?dh6; (case' dw6 => rfl); (case' de6 => (first | exact fun _ _ _ => trivial | (intro t ht w; cases ht; simp [upE]))); (case' dr6 => (intro w' hw' _; go_simp; with_reducible rfl)); (case' dh6 => (try simp only [Act.put, List.setIfInBounds_toArray, List.set_cons_zero, List.set_cons_succ])))
      (refine' head_call ?cw7 ?ce7 ?cr7 ?cc7 ?ch7; (case' cw7 => rfl); (case' ce7 => (first | exact fun _ _ _ => trivial | (intro t ht w; cases ht; simp [upE]))); (case' cr7 => (intro w'; go_simp; first | exact ⟨rfl, rfl⟩ | with_reducible rfl)); (case' cc7 => (intro w' hw' _; exact T2.out w')); (case' ch7 => (try simp only [Act.put, List.setIfInBounds_toArray, List.set_cons_zero, List.set_cons_succ])))
      (refine' head_val ?dw8 ?de8 ?dr8 ?dh8; (case' dw8 => rfl); (case' de8 => (first | exact fun _ _ _ => trivial | (intro t ht w; cases ht; simp [upE]))); (case' dr8 => (intro w' hw' _; go_simp; with_reducible rfl)); (case' dh8 => (try simp only [Act.put, List.setIfInBounds_toArray, List.set_cons_zero, List.set_cons_succ])))
      (refine' head_loadId (x := _) rfl ?_ rfl rfl BXA.out (HA.out) ?_; (first | exact fun _ _ _ => trivial | (intro t ht w; cases ht; simp [upE])); try simp only [Act.put, List.setIfInBounds_toArray, List.set_cons_zero, List.set_cons_succ])
      (refine' head_call ?cw9 ?ce9 ?cr9 ?cc9 ?ch9; (case' cw9 => rfl); (case' ce9 => (first | exact fun _ _ _ => trivial | (intro t ht w; cases ht; simp [upE]))); (case' cr9 => (intro w'; go_simp; first | exact ⟨rfl, rfl⟩ | with_reducible rfl)); (case' cc9 => (intro w' hw' _; exact T3.out w')); (case' ch9 => (try simp only [Act.put, List.setIfInBounds_toArray, List.set_cons_zero, List.set_cons_succ])))
      (refine' head_val ?dw10 ?de10 ?dr10 ?dh10; (case' dw10 => rfl); (case' de10 => (first | exact fun _ _ _ => trivial | (intro t ht w; cases ht; simp [upE]))); (case' dr10 => (intro w' hw' _; go_simp; with_reducible rfl)); (case' dh10 => (try simp only [Act.put, List.setIfInBounds_toArray, List.set_cons_zero, List.set_cons_succ]))); (refine' head_val ?dw11 ?de11 ?dr11 ?dh11; (case' dw11 => rfl); (case' de11 => (first | exact fun _ _ _ => trivial | (intro t ht w; cases ht; simp [upE]))); (case' dr11 => (intro w' hw' _; go_simp; with_reducible rfl)); (case' dh11 => (try simp only [Act.put, List.setIfInBounds_toArray, List.set_cons_zero, List.set_cons_succ])))
      (refine' head_call ?cw12 ?ce12 ?cr12 ?cc12 ?ch12; (case' cw12 => rfl); (case' ce12 => (first | exact fun _ _ _ => trivial | (intro t ht w; cases ht; simp [upE]))); (case' cr12 => (intro w'; go_simp; first | exact ⟨rfl, rfl⟩ | with_reducible rfl)); (case' cc12 => (intro w' hw' _; exact T4.out w')); (case' ch12 => (try simp only [Act.put, List.setIfInBounds_toArray, List.set_cons_zero, List.set_cons_succ])))
      (refine' head_val ?dw13 ?de13 ?dr13 ?dh13; (case' dw13 => rfl); (case' de13 => (first | exact fun _ _ _ => trivial | (intro t ht w; cases ht; simp [upE]))); (case' dr13 => (intro w' hw' _; go_simp; with_reducible rfl)); (case' dh13 => (try simp only [Act.put, List.setIfInBounds_toArray, List.set_cons_zero, List.set_cons_succ]))); (refine' head_val ?dw14 ?de14 ?dr14 ?dh14; (case' dw14 => rfl); (case' de14 => (first | exact fun _ _ _ => trivial | (intro t ht w; cases ht; simp [upE]))); (case' dr14 => (intro w' hw' _; go_simp; with_reducible rfl)); (case' dh14 => (try simp only [Act.put, List.setIfInBounds_toArray, List.set_cons_zero, List.set_cons_succ])))
      (refine' head_call ?cw15 ?ce15 ?cr15 ?cc15 ?ch15; (case' cw15 => rfl); (case' ce15 => (first | exact fun _ _ _ => trivial | (intro t ht w; cases ht; simp [upE]))); (case' cr15 => (intro w'; go_simp; first | exact ⟨rfl, rfl⟩ | with_reducible rfl)); (case' cc15 => (intro w' hw' _; exact T5.out w' (HX.out.grow (Grow.trans GA.out hw')))); (case' ch15 => (try simp only [Act.put, List.setIfInBounds_toArray, List.set_cons_zero, List.set_cons_succ])))
      (refine' head_val ?dw16 ?de16 ?dr16 ?dh16; (case' dw16 => rfl); (case' de16 => (first | exact fun _ _ _ => trivial | (intro t ht w; cases ht; simp [upE]))); (case' dr16 => (intro w' hw' _; go_simp; with_reducible rfl)); (case' dh16 => (try simp only [Act.put, List.setIfInBounds_toArray, List.set_cons_zero, List.set_cons_succ]))); (refine' head_val ?dw17 ?de17 ?dr17 ?dh17; (case' dw17 => rfl); (case' de17 => (first | exact fun _ _ _ => trivial | (intro t ht w; cases ht; simp [upE]))); (case' dr17 => (intro w' hw' _; go_simp; with_reducible rfl)); (case' dh17 => (try simp only [Act.put, List.setIfInBounds_toArray, List.set_cons_zero, List.set_cons_succ])))
      (refine' head_call ?cw18 ?ce18 ?cr18 ?cc18 ?ch18; (case' cw18 => rfl); (case' ce18 => (first | exact fun _ _ _ => trivial | (intro t ht w; cases ht; simp [upE]))); (case' cr18 => (intro w'; go_simp; first | exact ⟨rfl, rfl⟩ | with_reducible rfl)); (case' cc18 => (intro w' hw' _; exact T6.out w' (HY.out.grow (Grow.trans GA.out hw')))); (case' ch18 => (try simp only [Act.put, List.setIfInBounds_toArray, List.set_cons_zero, List.set_cons_succ])))
      (refine' head_val ?dw19 ?de19 ?dr19 ?dh19; (case' dw19 => rfl); (case' de19 => (first | exact fun _ _ _ => trivial | (intro t ht w; cases ht; simp [upE]))); (case' dr19 => (intro w' hw' _; go_simp; with_reducible rfl)); (case' dh19 => (try simp only [Act.put, List.setIfInBounds_toArray, List.set_cons_zero, List.set_cons_succ]))); (refine' head_val ?dw20 ?de20 ?dr20 ?dh20; (case' dw20 => rfl); (case' de20 => (first | exact fun _ _ _ => trivial | (intro t ht w; cases ht; simp [upE]))); (case' dr20 => (intro w' hw' _; go_simp; with_reducible rfl)); (case' dh20 => (try simp only [Act.put, List.setIfInBounds_toArray, List.set_cons_zero, List.set_cons_succ])))
      refine head_nil ?_
      intro w3 hb _
      replace GA := hid (Grow.trans GA.out hb)
      replace HWA := hid (HWA.out.grow hb)
      replace BXA := hid (grow_block BXA.out hb)
      clear hb
      refine wpList_nil ?_
      rw [HALL.out]
      clear q1 q2 q3 q4 q5 q6 HALL HC0 T2 T3 T4 T5 T6
      have hLsz := bs_size L
      go_wp2_with fail
      refine (wrString _ gw L _ HWA.out).mono ?_
      rintro _ wB ⟨rfl, rfl⟩
      go_wp2_with fail
      refine (rdNew L _).mono ?_
      rintro _ wC ⟨g2, rfl, hgl, hg, hb⟩
      have HG := hid hg
      have HGL := hid (Nat.le_trans GA.out.size hgl)
      have GC := hid (Grow.trans GA.out hb)
      clear hgl hg hb GA HWA BXA
      obtain ⟨p1, p2, p3, p4, p5, hpc⟩ := pwC g2 HPF.out HS3.out HA.out hn20 H32.out hm20 HM1.out
      have HPC := hid hpc
      clear hpc
      have HCN := hid (show AtG g2 L 1 p1 24 #[ptrV g2] (fun u _ _ => u = .int .i64 (v : Int)) from by
        obtain ⟨Y, hY⟩ := HPC.out.dn
        refine atG fun w hg => ?_
        have := rdNum g2 L 1 HPC.out.l1 (by have := HPF.out.len; omega) w hg
        rw [numR_at hv hY] at this
        rw [HPC.out.e1]
        exact this)
      have BXC := hid (grow_block BX.out GC.out)
      have HNE := hid (show gb ≠ g2 from by have := HLT.out; have := HGL.out; omega)
      have hq1 : ∀ w, (Go.binOp .neq 45 (idV a) (idV a)).run Try.prog w = .ok (.bool false) w := fun w => by rw [id_neq a a HA.out HA.out w, beq_self_eq_true]; rfl
      have hq2 := id_guard .neq a a
      have htt : (t != t) = false := by simp
      go_wp2_with fail
      refine wp_region_chain (fun W => W.heap[gb]? = some (.cells (u8s a).toArray 45 (0, 0))) [(0, true), (2, true), (1, false), (3, true), (4, true), (5, true), (6, true), (7, true), (9, true), (8, false), (10, true), (11, true), (12, true), (13, true), (14, true), (15, true), (16, true), (18, true), (17, false), (19, true), (20, true), (21, true), (22, true), (24, true), (23, false), (25, true), (26, true), (27, true), (28, true), (30, true), (29, false), (31, true), (32, true), (33, true), (34, true), (35, true), (36, true), (38, true), (37, false), (39, false), (40, true), (41, true), (42, true), (43, true), (44, true), (45, true), (47, true), (46, false), (48, false), (49, true), (50, true)] rfl (by kernel_rfl) rfl (by kernel_rfl) ?_
      intro wc4 hb
      replace BXC := hid (grow_block BXC.out hb)
      replace GC := hid (Grow.trans GC.out hb)
      replace HG := hid (grow_block HG.out hb)
      clear hb
      refine ⟨BXC.out, ?_⟩
      (refine' ch_val ?po21 ?pw21 ?pr21 ?pq21 ?ph21; (case' po21 => exact rfl); (case' pw21 => rfl); (case' pq21 => (exact fun _ _ _ h => h)); (case' pr21 => (intro w' hw'; go_simp; with_reducible rfl)); (case' ph21 => (try simp only [List.getElem_toArray, List.getElem_cons_zero, List.getElem_cons_succ, Act.put, List.setIfInBounds_toArray, List.set_cons_zero, List.set_cons_succ]))); (refine' ch_val ?po22 ?pw22 ?pr22 ?pq22 ?ph22; (case' po22 => exact rfl); (case' pw22 => rfl); (case' pq22 => (exact fun _ _ _ h => h)); (case' pr22 => (intro w' hw'; go_simp; with_reducible rfl)); (case' ph22 => (try simp only [List.getElem_toArray, List.getElem_cons_zero, List.getElem_cons_succ, Act.put, List.setIfInBounds_toArray, List.set_cons_zero, List.set_cons_succ])))
      refine ch_call rfl rfl (by first | (go_simp; done) | (go_simp; rfl)) (HPC.out.c1 _ HG.out) ?_
      rintro _ x1 ⟨_, rfl, rfl, hg, hf⟩
      have HG1 := hid hg
      have BX1 := hid (hf.blk BXC.out HNE.out)
      have GC1 := hid (Below.trans GC.out (hf.below (B := wr.heap.size) (fun k hk => by subst hk; exact HGL.out) GC.out.size))
      clear hg hf HG BXC GC
      refine ⟨_, rfl, BX1.out, ?_⟩
      try simp only [List.getElem_toArray, List.getElem_cons_zero, List.getElem_cons_succ, Act.put, List.setIfInBounds_toArray, List.set_cons_zero, List.set_cons_succ]
      (refine' ch_val ?po23 ?pw23 ?pr23 ?pq23 ?ph23; (case' po23 => exact rfl); (case' pw23 => rfl); (case' pq23 => (exact fun _ _ _ h => h)); (case' pr23 => (intro w' hw'; go_simp; with_reducible rfl)); (case' ph23 => (try simp only [List.getElem_toArray, List.getElem_cons_zero, List.getElem_cons_succ, Act.put, List.setIfInBounds_toArray, List.set_cons_zero, List.set_cons_succ]))); (refine' ch_val ?po24 ?pw24 ?pr24 ?pq24 ?ph24; (case' po24 => exact rfl); (case' pw24 => rfl); (case' pq24 => (exact fun _ _ _ h => h)); (case' pr24 => (intro w' hw'; go_simp; with_reducible rfl)); (case' ph24 => (try simp only [List.getElem_toArray, List.getElem_cons_zero, List.getElem_cons_succ, Act.put, List.setIfInBounds_toArray, List.set_cons_zero, List.set_cons_succ]))); (refine' ch_val ?po25 ?pw25 ?pr25 ?pq25 ?ph25; (case' po25 => exact rfl); (case' pw25 => rfl); (case' pq25 => (exact fun _ _ _ h => h)); (case' pr25 => (intro w' hw'; go_simp; with_reducible rfl)); (case' ph25 => (try simp only [List.getElem_toArray, List.getElem_cons_zero, List.getElem_cons_succ, Act.put, List.setIfInBounds_toArray, List.set_cons_zero, List.set_cons_succ]))); (refine' ch_val ?po26 ?pw26 ?pr26 ?pq26 ?ph26; (case' po26 => exact rfl); (case' pw26 => rfl); (case' pq26 => (exact fun _ _ _ h => h)); (case' pr26 => (intro w' hw'; go_simp; with_reducible rfl)); (case' ph26 => (try simp only [List.getElem_toArray, List.getElem_cons_zero, List.getElem_cons_succ, Act.put, List.setIfInBounds_toArray, List.set_cons_zero, List.set_cons_succ]))); (refine' ch_val ?po27 ?pw27 ?pr27 ?pq27 ?ph27; (case' po27 => exact rfl); (case' pw27 => rfl); (case' pq27 => (exact fun _ _ _ h => h)); (case' pr27 => (intro w' hw'; go_simp; with_reducible rfl)); (case' ph27 => (try simp only [List.getElem_toArray, List.getElem_cons_zero, List.getElem_cons_succ, Act.put, List.setIfInBounds_toArray, List.set_cons_zero, List.set_cons_succ]))); (refine' ch_val ?po28 ?pw28 ?pr28 ?pq28 ?ph28; (case' po28 => exact rfl); (case' pw28 => rfl); (case' pq28 => (exact fun _ _ _ h => h)); (case' pr28 => (intro w' hw'; go_simp; with_reducible rfl)); (case' ph28 => (try simp only [List.getElem_toArray, List.getElem_cons_zero, List.getElem_cons_succ, Act.put, List.setIfInBounds_toArray, List.set_cons_zero, List.set_cons_succ])))
      refine ch_call rfl rfl (by first | (go_simp; done) | (go_simp; rfl)) (HCN.out _ HG1.out) ?_
      rintro _ x2 ⟨_, rfl, rfl, hg, hf⟩
      have HG2 := hid hg
      have BX2 := hid (hf.blk BX1.out HNE.out)
      have GC2 := hid (Below.trans GC1.out (hf.below (B := wr.heap.size) (fun k hk => by subst hk; exact HGL.out) GC1.out.size))
      clear hg hf HG1 BX1 GC1
      refine ⟨_, rfl, BX2.out, ?_⟩
      try simp only [List.getElem_toArray, List.getElem_cons_zero, List.getElem_cons_succ, Act.put, List.setIfInBounds_toArray, List.set_cons_zero, List.set_cons_succ]
      (refine' ch_val ?po29 ?pw29 ?pr29 ?pq29 ?ph29; (case' po29 => exact rfl); (case' pw29 => rfl); (case' pq29 => (exact fun _ _ _ h => h)); (case' pr29 => (intro w' hw'; go_simp; with_reducible rfl)); (case' ph29 => (try simp only [List.getElem_toArray, List.getElem_cons_zero, List.getElem_cons_succ, Act.put, List.setIfInBounds_toArray, List.set_cons_zero, List.set_cons_succ]))); (refine' ch_val ?po30 ?pw30 ?pr30 ?pq30 ?ph30; (case' po30 => exact rfl); (case' pw30 => rfl); (case' pq30 => (exact fun _ _ _ h => h)); (case' pr30 => (intro w' hw'; go_simp; with_reducible rfl)); (case' ph30 => (try simp only [List.getElem_toArray, List.getElem_cons_zero, List.getElem_cons_succ, Act.put, List.setIfInBounds_toArray, List.set_cons_zero, List.set_cons_succ]))); (refine' ch_val ?po31 ?pw31 ?pr31 ?pq31 ?ph31; (case' po31 => exact rfl); (case' pw31 => rfl); (case' pq31 => (exact fun _ _ _ h => h)); (case' pr31 => (intro w' hw'; go_simp; with_reducible rfl)); (case' ph31 => (try simp only [List.getElem_toArray, List.getElem_cons_zero, List.getElem_cons_succ, Act.put, List.setIfInBounds_toArray, List.set_cons_zero, List.set_cons_succ]))); (refine' ch_val ?po32 ?pw32 ?pr32 ?pq32 ?ph32; (case' po32 => exact rfl); (case' pw32 => rfl); (case' pq32 => (exact fun _ _ _ h => h)); (case' pr32 => (intro w' hw'; go_simp; with_reducible rfl)); (case' ph32 => (try simp only [List.getElem_toArray, List.getElem_cons_zero, List.getElem_cons_succ, Act.put, List.setIfInBounds_toArray, List.set_cons_zero, List.set_cons_succ]))); (refine' ch_val ?po33 ?pw33 ?pr33 ?pq33 ?ph33; (case' po33 => exact rfl); (case' pw33 => rfl); (case' pq33 => (exact fun _ _ _ h => h)); (case' pr33 => (intro w' hw'; go_simp; with_reducible rfl)); (case' ph33 => (try simp only [List.getElem_toArray, List.getElem_cons_zero, List.getElem_cons_succ, Act.put, List.setIfInBounds_toArray, List.set_cons_zero, List.set_cons_succ]))); (refine' ch_val ?po34 ?pw34 ?pr34 ?pq34 ?ph34; (case' po34 => exact rfl); (case' pw34 => rfl); (case' pq34 => (exact fun _ _ _ h => h)); (case' pr34 => (intro w' hw'; go_simp; with_reducible rfl)); (case' ph34 => (try simp only [List.getElem_toArray, List.getElem_cons_zero, List.getElem_cons_succ, Act.put, List.setIfInBounds_toArray, List.set_cons_zero, List.set_cons_succ]))); (refine' ch_val ?po35 ?pw35 ?pr35 ?pq35 ?ph35; (case' po35 => exact rfl); (case' pw35 => rfl); (case' pq35 => (exact fun _ _ _ h => h)); (case' pr35 => (intro w' hw'; go_simp; with_reducible rfl)); (case' ph35 => (try simp only [List.getElem_toArray, List.getElem_cons_zero, List.getElem_cons_succ, Act.put, List.setIfInBounds_toArray, List.set_cons_zero, List.set_cons_succ]))); (refine' ch_val ?po36 ?pw36 ?pr36 ?pq36 ?ph36; (case' po36 => exact rfl); (case' pw36 => rfl); (case' pq36 => (exact fun _ _ _ h => h)); (case' pr36 => (intro w' hw'; go_simp; with_reducible rfl)); (case' ph36 => (try simp only [List.getElem_toArray, List.getElem_cons_zero, List.getElem_cons_succ, Act.put, List.setIfInBounds_toArray, List.set_cons_zero, List.set_cons_succ])))
      refine ch_call rfl rfl (by first | (go_simp; done) | (go_simp; rfl)) (HPC.out.c3 _ HG2.out) ?_
      rintro _ x3 ⟨_, rfl, rfl, hg, hf⟩
      have HG3 := hid hg
      have BX3 := hid (hf.blk BX2.out HNE.out)
      have GC3 := hid (Below.trans GC2.out (hf.below (B := wr.heap.size) (fun k hk => by subst hk; exact HGL.out) GC2.out.size))
      clear hg hf HG2 BX2 GC2
      refine ⟨_, rfl, BX3.out, ?_⟩
      try simp only [List.getElem_toArray, List.getElem_cons_zero, List.getElem_cons_succ, Act.put, List.setIfInBounds_toArray, List.set_cons_zero, List.set_cons_succ]
      (refine' ch_val ?po37 ?pw37 ?pr37 ?pq37 ?ph37; (case' po37 => exact rfl); (case' pw37 => rfl); (case' pq37 => (exact fun _ _ _ h => h)); (case' pr37 => (intro w' hw'; go_simp; with_reducible rfl)); (case' ph37 => (try simp only [List.getElem_toArray, List.getElem_cons_zero, List.getElem_cons_succ, Act.put, List.setIfInBounds_toArray, List.set_cons_zero, List.set_cons_succ]))); (refine' ch_val ?po38 ?pw38 ?pr38 ?pq38 ?ph38; (case' po38 => exact rfl); (case' pw38 => rfl); (case' pq38 => (exact fun _ _ _ h => h)); (case' pr38 => (intro w' hw'; go_simp; with_reducible rfl)); (case' ph38 => (try simp only [List.getElem_toArray, List.getElem_cons_zero, List.getElem_cons_succ, Act.put, List.setIfInBounds_toArray, List.set_cons_zero, List.set_cons_succ]))); (refine' ch_val ?po39 ?pw39 ?pr39 ?pq39 ?ph39; (case' po39 => exact rfl); (case' pw39 => rfl); (case' pq39 => (exact fun _ _ _ h => h)); (case' pr39 => (intro w' hw'; go_simp; with_reducible rfl)); (case' ph39 => (try simp only [List.getElem_toArray, List.getElem_cons_zero, List.getElem_cons_succ, Act.put, List.setIfInBounds_toArray, List.set_cons_zero, List.set_cons_succ]))); (refine' ch_val ?po40 ?pw40 ?pr40 ?pq40 ?ph40; (case' po40 => exact rfl); (case' pw40 => rfl); (case' pq40 => (exact fun _ _ _ h => h)); (case' pr40 => (intro w' hw'; go_simp; with_reducible rfl)); (case' ph40 => (try simp only [List.getElem_toArray, List.getElem_cons_zero, List.getElem_cons_succ, Act.put, List.setIfInBounds_toArray, List.set_cons_zero, List.set_cons_succ])))
      (refine' ch_val (v := (idV a)) ?po41 ?pw41 ?pr41 ?pq41 ?ph41; (case' po41 => exact rfl); (case' pw41 => rfl); (case' pq41 => (exact fun _ _ _ h => h)); (case' pr41 => (intro w' hw'; exact run_opLoadB rfl rfl hw' Try.underlying45 rfl (by have := szIdL HA.out; simpa using this))); (case' ph41 => (try simp only [List.getElem_toArray, List.getElem_cons_zero, List.getElem_cons_succ, Act.put, List.setIfInBounds_toArray, List.set_cons_zero, List.set_cons_succ])))
      refine ch_call rfl rfl (by first | (go_simp; done) | (go_simp; rfl)) (HPC.out.c4 _ HG3.out) ?_
      rintro _ x4 ⟨_, rfl, rfl, hg, hf⟩
      have HG4 := hid hg
      have BX4 := hid (hf.blk BX3.out HNE.out)
      have GC4 := hid (Below.trans GC3.out (hf.below (B := wr.heap.size) (fun k hk => by subst hk; exact HGL.out) GC3.out.size))
      clear hg hf HG3 BX3 GC3
      refine ⟨_, rfl, BX4.out, ?_⟩
      try simp only [List.getElem_toArray, List.getElem_cons_zero, List.getElem_cons_succ, Act.put, List.setIfInBounds_toArray, List.set_cons_zero, List.set_cons_succ]
      (refine' ch_val ?po42 ?pw42 ?pr42 ?pq42 ?ph42; (case' po42 => exact rfl); (case' pw42 => rfl); (case' pq42 => (exact fun _ _ _ h => h)); (case' pr42 => (intro w' hw'; go_simp; with_reducible rfl)); (case' ph42 => (try simp only [List.getElem_toArray, List.getElem_cons_zero, List.getElem_cons_succ, Act.put, List.setIfInBounds_toArray, List.set_cons_zero, List.set_cons_succ]))); (refine' ch_val ?po43 ?pw43 ?pr43 ?pq43 ?ph43; (case' po43 => exact rfl); (case' pw43 => rfl); (case' pq43 => (exact fun _ _ _ h => h)); (case' pr43 => (intro w' hw'; go_simp; with_reducible rfl)); (case' ph43 => (try simp only [List.getElem_toArray, List.getElem_cons_zero, List.getElem_cons_succ, Act.put, List.setIfInBounds_toArray, List.set_cons_zero, List.set_cons_succ]))); (refine' ch_val ?po44 ?pw44 ?pr44 ?pq44 ?ph44; (case' po44 => exact rfl); (case' pw44 => rfl); (case' pq44 => (exact fun _ _ _ h => h)); (case' pr44 => (intro w' hw'; go_simp; with_reducible rfl)); (case' ph44 => (try simp only [List.getElem_toArray, List.getElem_cons_zero, List.getElem_cons_succ, Act.put, List.setIfInBounds_toArray, List.set_cons_zero, List.set_cons_succ]))); (refine' ch_val ?po45 ?pw45 ?pr45 ?pq45 ?ph45; (case' po45 => exact rfl); (case' pw45 => rfl); (case' pq45 => (exact fun _ _ _ h => h)); (case' pr45 => (intro w' hw'; go_simp; with_reducible rfl)); (case' ph45 => (try simp only [List.getElem_toArray, List.getElem_cons_zero, List.getElem_cons_succ, Act.put, List.setIfInBounds_toArray, List.set_cons_zero, List.set_cons_succ]))); (refine' ch_val ?po46 ?pw46 ?pr46 ?pq46 ?ph46; (case' po46 => exact rfl); (case' pw46 => rfl); (case' pq46 => (exact fun _ _ _ h => h)); (case' pr46 => (intro w' hw'; go_simp; with_reducible rfl)); (case' ph46 => (try simp only [List.getElem_toArray, List.getElem_cons_zero, List.getElem_cons_succ, Act.put, List.setIfInBounds_toArray, List.set_cons_zero, List.set_cons_succ])))
      refine ch_call rfl rfl (by first | (go_simp; done) | (go_simp; rfl)) (HPC.out.c5 _ HG4.out) ?_
      rintro _ x5 ⟨_, rfl, rfl, hg, hf⟩
      have HG5 := hid hg
      have BX5 := hid (hf.blk BX4.out HNE.out)
      have GC5 := hid (Below.trans GC4.out (hf.below (B := wr.heap.size) (fun k hk => by subst hk; exact HGL.out) GC4.out.size))
      clear hg hf HG4 BX4 GC4
      refine ⟨_, rfl, BX5.out, ?_⟩
      try simp only [List.getElem_toArray, List.getElem_cons_zero, List.getElem_cons_succ, Act.put, List.setIfInBounds_toArray, List.set_cons_zero, List.set_cons_succ]
      (refine' ch_val ?po47 ?pw47 ?pr47 ?pq47 ?ph47; (case' po47 => exact rfl); (case' pw47 => rfl); (case' pq47 => (exact fun _ _ _ h => h)); (case' pr47 => (intro w' hw'; go_simp; with_reducible rfl)); (case' ph47 => (try simp only [List.getElem_toArray, List.getElem_cons_zero, List.getElem_cons_succ, Act.put, List.setIfInBounds_toArray, List.set_cons_zero, List.set_cons_succ]))); (refine' ch_val ?po48 ?pw48 ?pr48 ?pq48 ?ph48; (case' po48 => exact rfl); (case' pw48 => rfl); (case' pq48 => (exact fun _ _ _ h => h)); (case' pr48 => (intro w' hw'; go_simp; with_reducible rfl)); (case' ph48 => (try simp only [List.getElem_toArray, List.getElem_cons_zero, List.getElem_cons_succ, Act.put, List.setIfInBounds_toArray, List.set_cons_zero, List.set_cons_succ]))); (refine' ch_val ?po49 ?pw49 ?pr49 ?pq49 ?ph49; (case' po49 => exact rfl); (case' pw49 => rfl); (case' pq49 => (exact fun _ _ _ h => h)); (case' pr49 => (intro w' hw'; go_simp; with_reducible rfl)); (case' ph49 => (try simp only [List.getElem_toArray, List.getElem_cons_zero, List.getElem_cons_succ, Act.put, List.setIfInBounds_toArray, List.set_cons_zero, List.set_cons_succ]))); (refine' ch_val ?po50 ?pw50 ?pr50 ?pq50 ?ph50; (case' po50 => exact rfl); (case' pw50 => rfl); (case' pq50 => (exact fun _ _ _ h => h)); (case' pr50 => (intro w' hw'; go_simp; with_reducible rfl)); (case' ph50 => (try simp only [List.getElem_toArray, List.getElem_cons_zero, List.getElem_cons_succ, Act.put, List.setIfInBounds_toArray, List.set_cons_zero, List.set_cons_succ]))); (refine' ch_val ?po51 ?pw51 ?pr51 ?pq51 ?ph51; (case' po51 => exact rfl); (case' pw51 => rfl); (case' pq51 => (exact fun _ _ _ h => h)); (case' pr51 => (intro w' hw'; go_simp; with_reducible rfl)); (case' ph51 => (try simp only [List.getElem_toArray, List.getElem_cons_zero, List.getElem_cons_succ, Act.put, List.setIfInBounds_toArray, List.set_cons_zero, List.set_cons_succ]))); (refine' ch_val ?po52 ?pw52 ?pr52 ?pq52 ?ph52; (case' po52 => exact rfl); (case' pw52 => rfl); (case' pq52 => (exact fun _ _ _ h => h)); (case' pr52 => (intro w' hw'; go_simp; with_reducible rfl)); (case' ph52 => (try simp only [List.getElem_toArray, List.getElem_cons_zero, List.getElem_cons_succ, Act.put, List.setIfInBounds_toArray, List.set_cons_zero, List.set_cons_succ]))); (refine' ch_val ?po53 ?pw53 ?pr53 ?pq53 ?ph53; (case' po53 => exact rfl); (case' pw53 => rfl); (case' pq53 => (exact fun _ _ _ h => h)); (case' pr53 => (intro w' hw'; go_simp; with_reducible rfl)); (case' ph53 => (try simp only [List.getElem_toArray, List.getElem_cons_zero, List.getElem_cons_succ, Act.put, List.setIfInBounds_toArray, List.set_cons_zero, List.set_cons_succ])))
      refine ch_call rfl rfl (by first | (go_simp; done) | (go_simp; rfl)) (HPC.out.c6 _ HG5.out) ?_
      rintro _ x6 ⟨_, rfl, ho, hg, hf⟩
      obtain ⟨⟨A6, c6, rfl, hr6⟩, _⟩ := ho.sl
      have HR6 := hid hr6
      clear ho hr6
      have HG6 := hid hg
      have BX6 := hid (hf.blk BX5.out HNE.out)
      have GC6 := hid (Below.trans GC5.out (hf.below (B := wr.heap.size) (fun k hk => by subst hk; exact HGL.out) GC5.out.size))
      clear hg hf HG5 BX5 GC5
      refine ⟨_, rfl, BX6.out, ?_⟩
      try simp only [List.getElem_toArray, List.getElem_cons_zero, List.getElem_cons_succ, Act.put, List.setIfInBounds_toArray, List.set_cons_zero, List.set_cons_succ]
      refine ch_call rfl rfl (by first | (go_simp; done) | (go_simp; rfl)) (refSame A6 A _ _ c6 c xs xs _ HR6.out (HX.out.grow GC6.out) rfl rfl H32.out H32.out) ?_
      rintro _ x7 ⟨rfl, hb⟩
      have hxx : (xs == xs) = true := by simp
      have HG7 := hid (grow_block HG6.out hb)
      have BX7 := hid (grow_block BX6.out hb)
      have GC7 := hid (Grow.trans GC6.out hb)
      clear hb HG6 BX6 GC6 HR6
      refine ⟨_, rfl, BX7.out, ?_⟩
      rw [hxx]
      try simp only [List.getElem_toArray, List.getElem_cons_zero, List.getElem_cons_succ, Act.put, List.setIfInBounds_toArray, List.set_cons_zero, List.set_cons_succ]
      (refine' ch_val ?po54 ?pw54 ?pr54 ?pq54 ?ph54; (case' po54 => exact rfl); (case' pw54 => rfl); (case' pq54 => (exact fun _ _ _ h => h)); (case' pr54 => (intro w' hw'; go_simp; with_reducible rfl)); (case' ph54 => (try simp only [List.getElem_toArray, List.getElem_cons_zero, List.getElem_cons_succ, Act.put, List.setIfInBounds_toArray, List.set_cons_zero, List.set_cons_succ]))); (refine' ch_val ?po55 ?pw55 ?pr55 ?pq55 ?ph55; (case' po55 => exact rfl); (case' pw55 => rfl); (case' pq55 => (exact fun _ _ _ h => h)); (case' pr55 => (intro w' hw'; go_simp; with_reducible rfl)); (case' ph55 => (try simp only [List.getElem_toArray, List.getElem_cons_zero, List.getElem_cons_succ, Act.put, List.setIfInBounds_toArray, List.set_cons_zero, List.set_cons_succ]))); (refine' ch_val ?po56 ?pw56 ?pr56 ?pq56 ?ph56; (case' po56 => exact rfl); (case' pw56 => rfl); (case' pq56 => (exact fun _ _ _ h => h)); (case' pr56 => (intro w' hw'; go_simp; with_reducible rfl)); (case' ph56 => (try simp only [List.getElem_toArray, List.getElem_cons_zero, List.getElem_cons_succ, Act.put, List.setIfInBounds_toArray, List.set_cons_zero, List.set_cons_succ]))); (refine' ch_val ?po57 ?pw57 ?pr57 ?pq57 ?ph57; (case' po57 => exact rfl); (case' pw57 => rfl); (case' pq57 => (exact fun _ _ _ h => h)); (case' pr57 => (intro w' hw'; go_simp; with_reducible rfl)); (case' ph57 => (try simp only [List.getElem_toArray, List.getElem_cons_zero, List.getElem_cons_succ, Act.put, List.setIfInBounds_toArray, List.set_cons_zero, List.set_cons_succ]))); (refine' ch_val ?po58 ?pw58 ?pr58 ?pq58 ?ph58; (case' po58 => exact rfl); (case' pw58 => rfl); (case' pq58 => (exact fun _ _ _ h => h)); (case' pr58 => (intro w' hw'; go_simp; with_reducible rfl)); (case' ph58 => (try simp only [List.getElem_toArray, List.getElem_cons_zero, List.getElem_cons_succ, Act.put, List.setIfInBounds_toArray, List.set_cons_zero, List.set_cons_succ]))); (refine' ch_val ?po59 ?pw59 ?pr59 ?pq59 ?ph59; (case' po59 => exact rfl); (case' pw59 => rfl); (case' pq59 => (exact fun _ _ _ h => h)); (case' pr59 => (intro w' hw'; go_simp; with_reducible rfl)); (case' ph59 => (try simp only [List.getElem_toArray, List.getElem_cons_zero, List.getElem_cons_succ, Act.put, List.setIfInBounds_toArray, List.set_cons_zero, List.set_cons_succ]))); (refine' ch_val ?po60 ?pw60 ?pr60 ?pq60 ?ph60; (case' po60 => exact rfl); (case' pw60 => rfl); (case' pq60 => (exact fun _ _ _ h => h)); (case' pr60 => (intro w' hw'; go_simp; with_reducible rfl)); (case' ph60 => (try simp only [List.getElem_toArray, List.getElem_cons_zero, List.getElem_cons_succ, Act.put, List.setIfInBounds_toArray, List.set_cons_zero, List.set_cons_succ])))
      refine ch_call rfl rfl (by first | (go_simp; done) | (go_simp; rfl)) (HPC.out.c7 _ HG7.out) ?_
      rintro _ x8 ⟨_, rfl, ho, hg, hf⟩
      obtain ⟨A8, c8, rfl, hr8⟩ := own_strs ho rfl
      have HR8 := hid hr8
      clear ho hr8
      have HG8 := hid hg
      have BX8 := hid (hf.blk BX7.out HNE.out)
      have GC8 := hid (Below.trans GC7.out (hf.below (B := wr.heap.size) (fun k hk => by subst hk; exact HGL.out) GC7.out.size))
      clear hg hf HG7 BX7 GC7
      refine ⟨_, rfl, BX8.out, ?_⟩
      try simp only [List.getElem_toArray, List.getElem_cons_zero, List.getElem_cons_succ, Act.put, List.setIfInBounds_toArray, List.set_cons_zero, List.set_cons_succ]
      refine ch_call rfl rfl (by first | (go_simp; done) | (go_simp; rfl)) (refSame05 A8 C _ _ c8 d ms ms _ HR8.out (HY.out.grow GC8.out) rfl rfl) ?_
      rintro _ x9 ⟨rfl, hb⟩
      have hmm : decide (ms = ms) = true := by simp
      have HG9 := hid (grow_block HG8.out hb)
      have BX9 := hid (grow_block BX8.out hb)
      have GC9 := hid (Grow.trans GC8.out hb)
      clear hb HG8 BX8 GC8 HR8
      refine ⟨_, rfl, BX9.out, ?_⟩
      rw [hmm]
      try simp only [List.getElem_toArray, List.getElem_cons_zero, List.getElem_cons_succ, Act.put, List.setIfInBounds_toArray, List.set_cons_zero, List.set_cons_succ]
      (refine' ch_val ?po61 ?pw61 ?pr61 ?pq61 ?ph61; (case' po61 => exact rfl); (case' pw61 => rfl); (case' pq61 => (exact fun _ _ _ h => h)); (case' pr61 => (intro w' hw'; go_simp; with_reducible rfl)); (case' ph61 => (try simp only [List.getElem_toArray, List.getElem_cons_zero, List.getElem_cons_succ, Act.put, List.setIfInBounds_toArray, List.set_cons_zero, List.set_cons_succ]))); (refine' ch_val ?po62 ?pw62 ?pr62 ?pq62 ?ph62; (case' po62 => exact rfl); (case' pw62 => rfl); (case' pq62 => (exact fun _ _ _ h => h)); (case' pr62 => (intro w' hw'; go_simp; with_reducible rfl)); (case' ph62 => (try simp only [List.getElem_toArray, List.getElem_cons_zero, List.getElem_cons_succ, Act.put, List.setIfInBounds_toArray, List.set_cons_zero, List.set_cons_succ])))
      refine ch_nil ?_
      clear hq1 hq2 htt
      go_wp2_with fail
      refine (rdEnd g2 L L.length 0 _ HG9.out).mono ?_
      rintro _ y1 ⟨rfl, hb⟩
      have e0 : endE L L.length 0 = 0 := by unfold endE; rw [if_neg (by omega)]
      rw [e0]
      have HGA := hid (grow_block HG9.out hb)
      have GCA := hid (Grow.trans GC9.out hb)
      clear hb HG9 GC9 e0
      go_wp2_with fail
      refine (rdPlace g2 L L.length 0 _ HGA.out).mono ?_
      rintro _ y2 ⟨rfl, rfl⟩
      have hLz := bs_size L
      have hLL := HPF.out.len
      go_wp2_with fail
      refine (awake05 _).mono ?_
      rintro _ y3 ⟨rfl, hb⟩
      have HBZ := hid (HB0.out.trans ((Grow.trans GCA.out hb).mono HB0.out.size))
      clear hb
      go_wp2_with fail
      go_ret
      exact ⟨rfl, HBZ.out⟩
end Go.Proofs.Ytkbapegohodcgaa
