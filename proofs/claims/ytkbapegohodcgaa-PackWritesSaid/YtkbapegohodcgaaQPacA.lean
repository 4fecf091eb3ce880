/- What is written is read: plain; pack.Reader.Texts. -/
import Derived.Test.YtkbapegohodcgaaQPac9
set_option linter.unusedSimpArgs false
set_option linter.unusedVariables false
namespace Go.Proofs.Ytkbapegohodcgaa
open Go.RowKit
open Go.Qk hiding rotr b4
open Pac
set_option maxHeartbeats 1000000
set_option maxRecDepth 100000
theorem numR_at {L : List UInt8} {p v : Nat} {Y : List UInt8} (hv : v ≤ 4611686018427387904) (hd : L.drop p = encN v ++ Y) : numR L p = .ok v (encN v).length := by
  unfold numR
  rw [hd, rdN_enc v 0 0 Y (by omega) (by omega) (by simpa using hv)]
  simp
theorem drop_next {L : List UInt8} {p : Nat} {X Y : List UInt8} (hd : L.drop p = X ++ Y) : L.drop (p + X.length) = Y := by
  rw [← List.drop_drop, hd, List.drop_left]
theorem drop_len {L : List UInt8} {p : Nat} {X Y : List UInt8} (hp : p ≤ L.length) (hd : L.drop p = X ++ Y) : p + X.length + Y.length = L.length := by
  have := congrArg List.length hd
  simp at this
  omega
theorem textR_at {L : List UInt8} {p most : Nat} {S Y : List UInt8} (hp : p ≤ L.length) (hd : L.drop p = (encN S.length ++ S) ++ Y) (hS : S.length ≤ most) (hl : S.length ≤ 4611686018427387904) : textR L p most = (S, p + (encN S.length ++ S).length, 0) := by
  have hd1 : L.drop p = encN S.length ++ (S ++ Y) := by rw [hd, List.append_assoc]
  have hd2 := drop_next hd1
  have hn := drop_len hp hd1
  unfold textR
  rw [numR_at hl hd1]
  simp only
  rw [if_neg (by omega), if_pos (by rw [List.length_append] at hn; omega), hd2, List.take_left, List.length_append, Nat.add_assoc]
theorem flat_at {L : List UInt8} {p : Nat} {Y : List UInt8} (xs : List (List UInt8)) (h32 : ∀ s ∈ xs, s.length = 32) (hp : p ≤ L.length) (hd : L.drop p = xs.flatten ++ Y) (k : Nat) (hk : k < xs.length) : (L.drop (p + 32 * k)).take 32 = xs.getD k [] ∧ p + 32 * k + 32 ≤ L.length := by
  have hl := flatten_take_len xs h32 k (by omega)
  have hs := flatten_take_succ xs k hk
  have h1 : (xs.getD k []).length = 32 := getD_mem_len h32 hk
  have e : xs.flatten = (xs.take k).flatten ++ (xs.getD k [] ++ (xs.drop (k + 1)).flatten) := by
    conv => lhs; rw [← List.take_append_drop (k + 1) xs, List.flatten_append, hs]
    rw [List.append_assoc]
  have hd1 : L.drop p = (xs.take k).flatten ++ ((xs.getD k [] ++ (xs.drop (k + 1)).flatten) ++ Y) := by rw [hd, e, List.append_assoc]
  have hd2 := drop_next hd1
  have hn := drop_len hp hd1
  rw [hl] at hd2
  constructor
  · rw [hd2, List.append_assoc, ← h1, List.take_left]
  · simp only [List.length_append] at hn; omega
theorem texts_at {L : List UInt8} {p : Nat} {Y : List UInt8} (xs : List ByteArray) (long : Nat) (hlong : long ≤ 1000000) (hx : ∀ s ∈ xs, s.size ≤ long) (hp : p ≤ L.length) (hd : L.drop p = encTs xs ++ Y) (k : Nat) (hk : k < xs.length) :
    textR L (p + (encTs (xs.take k)).length) long = (bl (xs.getD k ByteArray.empty), p + (encTs (xs.take (k + 1))).length, 0) ∧ p + (encTs (xs.take k)).length ≤ L.length := by
  have hs := encTs_snoc xs k hk
  have hm : (bl (xs.getD k ByteArray.empty)).length ≤ long := by rw [bl_length]; exact hx _ (by rw [List.getD_eq_getElem?_getD, List.getElem?_eq_getElem hk]; simp)
  have e : encTs xs = encTs (xs.take (k + 1)) ++ encTs (xs.drop (k + 1)) := by
    conv => lhs; rw [← List.take_append_drop (k + 1) xs]
    unfold encTs
    rw [List.flatMap_append]
  generalize hz : bl (xs.getD k ByteArray.empty) = z at *
  have hd1 : L.drop p = encTs (xs.take k) ++ ((encN z.length ++ z) ++ (encTs (xs.drop (k + 1)) ++ Y)) := by rw [hd, e, hs, List.append_assoc, List.append_assoc]
  have hd2 := drop_next hd1
  have hn := drop_len hp hd1
  refine ⟨?_, by omega⟩
  rw [textR_at (by omega) hd2 hm (by omega), hs]
  congr 2
  simp only [List.length_append]
  omega
theorem rdTextsR (g : Nat) (L : List UInt8) (p most long k0 : Nat) (q : Nat → Nat) (xs : List ByteArray) (hp : p ≤ L.length) (hL : L.length ≤ 1000000000) (hR : numR L p = .ok xs.length k0) (hv : xs.length ≤ 100000) (hm : xs.length ≤ most) (hq0 : q 0 = p + k0)
    (hat : ∀ k, k < xs.length → textR L (q k) long = (bl (xs.getD k ByteArray.empty), q (k + 1), 0) ∧ q k ≤ L.length) (w : World) (hg : w.heap[g]? = some (rdOb L p 0)) :
    Calls Try.prog 47 #[ptrV g, .int .i64 (most : Int), .int .i64 (long : Int)] w fun r w' => ∃ v, r = .returned v ∧ w'.ownsRow w.heap.size 9 1 v xs.length (xs.map Value.string) ∧ w'.heap[g]? = some (rdOb L (q xs.length) 0) ∧ Fr (fun k => k = g) w w' := by
  have HG := hid hg
  have HC := hid (fun gr gl w hg hr hl => rdTexts0 g gr gl L p most long k0 q xs hp hL hR hv hm hq0 hat w hg hr hl)
  clear hg hp hL hR hv hm hq0 hat
  unfold ptrV at *
  go_enter Try.func47, Try.ntmps47
  have HB := hid (grow_refl w)
  apply wp_seq_k; intro _ _; apply wp_region_lit
  refine op_boxC (cs := #[.pointer (some ⟨g, 0, none⟩)]) rfl rfl rfl rfl ?_
  intro gr w1 hgl hgu hb hr
  have BRL := hid (Nat.le_trans HB.out.size hgl)
  replace HB := hid (Grow.trans HB.out hb)
  replace HG := hid (grow_block HG.out hb)
  have BR := hid hr; have BRU := hid hgu
  clear hr hgl hgu hb
  try simp only [Act.put, List.setIfInBounds_toArray, List.set_cons_zero, List.set_cons_succ]
  refine op_boxC (cs := #[.int .i64 (long : Int)]) rfl rfl rfl rfl ?_
  intro gl w2 hgl hgu hb hr
  have BLL := hid (Nat.le_trans HB.out.size hgl)
  replace HB := hid (Grow.trans HB.out hb)
  replace HG := hid (grow_block HG.out hb)
  replace BR := hid (grow_block BR.out hb)
  have BL := hid hr; have BLU := hid hgu
  clear hr hgl hgu hb
  try simp only [Act.put, List.setIfInBounds_toArray, List.set_cons_zero, List.set_cons_succ]
  go_wp2_with (first | (refine opG_load1 (i := 0) (v := (.pointer (some ⟨g, 0, none⟩))) rfl rfl rfl BR.out rfl Try.underlying34 rfl ?_) |  fail)
  refine (HC.out gr gl _ HG.out BR.out BL.out).mono ?_
  rintro _ w3 ⟨v, rfl, ho, hg, hf⟩
  have HO := hid (own_rebase (C := w.heap.size) ho (fun k hk => Nat.le_trans HB.out.size (own_lt ho hk).1))
  have HG3 := hid hg
  have HF3 := hid ((fr_grow (D := fun k => k = g) HB.out).trans hf)
  clear ho hg hf
  go_wp2_with fail
  go_ret
  exact ⟨_, rfl, HO.out, HG3.out, HF3.out⟩
theorem own_strs {w : World} {B n : Nat} {v : Value} {xs : List ByteArray} (h : w.ownsRow B 9 1 v n (xs.map Value.string)) (hn : xs.length = n) : ∃ A c, v = .slice A n c ∧ StrRow w A xs := by
  have hmx : n ≤ 9223372036854775807 := by
    rcases h.2 with ⟨_, h0⟩ | ⟨g, cap, cur, _, _, _, h4, h5, _⟩
    · omega
    · have : maxLen = 9223372036854775807 := rfl
      omega
  obtain ⟨A, c, rfl, hs⟩ := own_sl h
  refine ⟨A, c, rfl, by omega, fun hne => ?_⟩
  obtain ⟨ad, e, hc⟩ := hs (by intro e; exact hne (List.map_eq_nil_iff.1 e))
  exact ⟨ad, e, fun i hi => hc i _ (by simp [hi])⟩
def mayB (v : Int) : Bool := decide (0 ≤ v ∧ v ≤ 4611686018427387904)
def numL (v : Int) : List UInt8 := if mayB v = true then encN v.toNat else []
end Go.Proofs.Ytkbapegohodcgaa
