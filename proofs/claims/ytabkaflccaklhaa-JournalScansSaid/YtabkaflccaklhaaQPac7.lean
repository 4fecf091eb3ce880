/- The references of pack; Reader: Byte, Truth, Id where they are there: contracts. -/
import Derived.Test.YtabkaflccaklhaaQPac6
set_option linter.unusedSimpArgs false
set_option linter.unusedVariables false
namespace Go.Proofs.Ytabkaflccaklhaa
open Go.RowKit
open Go.Qk hiding rotr b4
open Pac
set_option maxHeartbeats 1000000
set_option maxRecDepth 100000
theorem convB {E : Tmp → World → Prop} {t : Tmp} {g : Nat} {b : UInt8} {w : World} (h : upE E (some t) (rowAt [.int .u8 (b.toNat : Int)] 1 (.slice (some ⟨g, 0, none⟩) 1 1)) t w) :
    (convert 51 9 (.slice (some ⟨g, 0, none⟩) 1 1)).run Try.prog w = .ok (.string (bs [b])) w := by
  refine run_str w 51 5 9 Try.underlying51 Try.underlying5 Try.underlying9 g 0 1 [b] (fun i hi => ?_) 1 rfl
  simp only [List.length_singleton] at hi
  obtain rfl : i = 0 := by omega
  have h1 := row_at h 0 _ rfl
  rw [addr_add] at h1
  rw [Nat.zero_add, h1]
  rfl
theorem refNum05 (f : Nat) : ∀ (v : Nat), v < 128 ^ (f + 1) → v ≤ 4611686018427387904 → ∀ (w : World), Calls Try.prog 78 #[.int .i64 (v : Int)] w fun e w' => e = .returned (.string (bs (encN v))) ∧ Below w.heap.size w w' := by
  induction f with
  | zero =>
    intro v hv _ w
    have h : v < 128 := by simpa using hv
    have hbs := byte_str w v (by omega)
    have HE := hid (encN_small h)
    clear hv
    go_enter Try.func78, Try.ntmps78
    have HB := hid (grow_refl w)
    go_wp2_with fail
    go_ret
    exact ⟨by rw [HE.out]; rfl, (Below.refl _ _).alloc (Nat.le_refl _) _⟩
  | succ f ih =>
    intro v hv hv2 w
    by_cases h : v < 128
    · have hbs := byte_str w v (by omega)
      have HE := hid (encN_small h)
      clear hv
      go_enter Try.func78, Try.ntmps78
      have HB := hid (grow_refl w)
      go_wp2_with fail
      go_ret
      exact ⟨by rw [HE.out]; rfl, (Below.refl _ _).alloc (Nat.le_refl _) _⟩
    · have HE := hid (encN_big h)
      have HI := hid (ih (v / 128) (by rw [Nat.div_lt_iff_lt_mul (by decide)]; rw [Nat.pow_succ] at hv; omega) (by omega))
      clear hv ih
      go_enter Try.func78, Try.ntmps78
      have HB := hid (grow_refl w)
      have q1 : (0 : Int) ≤ (v : Int) := by omega
      have q2 : (v : Int) ≤ 4611686018427387904 := by omega
      have wr1 : IntKind.i64.wrap ((v : Int) % 128 + 128) = (v : Int) % 128 + 128 := IntWalk.i64_in _ (by omega)
      have wr2 : IntKind.i64.wrap ((v : Int) / 128) = ((v / 128 : Nat) : Int) := by rw [show ((v : Int) / 128) = ((v / 128 : Nat) : Int) by omega]; exact IntWalk.i64_in _ (by omega)
      have by1 : ((v : Int) % 128 + 128) % 256 = ((UInt8.ofNat (v % 128 + 128)).toNat : Int) := by_128 v
      have HBY := hid by1
      have tm : (v : Int).tmod 128 = (v : Int) % 128 := Int.tmod_eq_emod_of_nonneg q1
      have td : (v : Int).tdiv 128 = (v : Int) / 128 := Int.tdiv_eq_ediv_of_nonneg q1
      have HAP := hid (show bs [UInt8.ofNat (v % 128 + 128)] ++ bs (encN (v / 128)) = bs (encN v) by rw [bs_append, HE.out]; rfl)
      have hz1 := bs_size [UInt8.ofNat (v % 128 + 128)]
      have hz2 : (bs (encN (v / 128))).size ≤ 10 := by rw [bs_size]; exact encN_ten _ (by omega)
      clear by1
      generalize UInt8.ofNat (v % 128 + 128) = b at *
      generalize bs (encN (v / 128)) = c2 at *
      have hz3 : ¬ 9223372036854775807 < 1 + c2.size := by omega
      go_wp2_with fail
      (refine' wp_region_head 11 0 [_, _, _, _, _, _, _, _, _, _, _] rfl (by kernel_rfl) (by kernel_rfl) ?hreg1; case' hreg1 => simp only [List.take_succ_cons, List.take_zero, List.zip_cons_cons, List.zip_nil_right, List.drop_succ_cons, List.drop_zero, List.drop_nil])
      (refine' head_val ?dw2 ?de2 ?dr2 ?dh2; (case' dw2 => rfl); (case' de2 => (first | exact fun _ _ _ => trivial | (intro t ht w; cases ht; simp [upE]))); (case' dr2 => (intro w' hw' _; go_simp; with_reducible rfl)); (case' dh2 => (try simp only [Act.put, List.setIfInBounds_toArray, List.set_cons_zero, List.set_cons_succ]))); (refine' head_val ?dw3 ?de3 ?dr3 ?dh3; (case' dw3 => rfl); (case' de3 => (first | exact fun _ _ _ => trivial | (intro t ht w; cases ht; simp [upE]))); (case' dr3 => (intro w' hw' _; go_simp; with_reducible rfl)); (case' dh3 => (try simp only [Act.put, List.setIfInBounds_toArray, List.set_cons_zero, List.set_cons_succ]))); (refine' head_val ?dw4 ?de4 ?dr4 ?dh4; (case' dw4 => rfl); (case' de4 => (first | exact fun _ _ _ => trivial | (intro t ht w; cases ht; simp [upE]))); (case' dr4 => (intro w' hw' _; go_simp; with_reducible rfl)); (case' dh4 => (try simp only [Act.put, List.setIfInBounds_toArray, List.set_cons_zero, List.set_cons_succ])))
      (refine' head_val (v := .int .u8 (b.toNat : Int)) ?dw5 ?de5 ?dr5 ?dh5; (case' dw5 => rfl); (case' de5 => (first | exact fun _ _ _ => trivial | (intro t ht w; cases ht; simp [upE]))); (case' dr5 => (intro w' hw' hE; (go_simp; rw [IntKind.wrap_u8, HBY.out]))); (case' dh5 => (try simp only [Act.put, List.setIfInBounds_toArray, List.set_cons_zero, List.set_cons_succ])))
      (refine' head_row [.int .u8 (b.toNat : Int)] 1 5 ?_ ?_ ?_; (· rfl); (· intro w; first | (go_simp; done) | (go_simp; first | with_reducible rfl | rfl)); intro g13; simp only [Act.put, List.setIfInBounds_toArray, List.set_cons_zero, List.set_cons_succ])
      (refine' head_conv (v := .string (bs [b])) ?dw6 ?de6 rfl ?dx6 ?dr6 ?dh6; (case' dw6 => rfl); (case' de6 => (first | exact fun _ _ _ => trivial | (intro t ht w; cases ht; simp [upE]))); (case' dx6 => rfl); (case' dr6 => (intro w' hw' hE; exact convB (hE 13 (by decide)))); (case' dh6 => (try simp only [Act.put, List.setIfInBounds_toArray, List.set_cons_zero, List.set_cons_succ])))
      (refine' head_val ?dw7 ?de7 ?dr7 ?dh7; (case' dw7 => rfl); (case' de7 => (first | exact fun _ _ _ => trivial | (intro t ht w; cases ht; simp [upE]))); (case' dr7 => (intro w' hw' _; go_simp; with_reducible rfl)); (case' dh7 => (try simp only [Act.put, List.setIfInBounds_toArray, List.set_cons_zero, List.set_cons_succ]))); (refine' head_val ?dw8 ?de8 ?dr8 ?dh8; (case' dw8 => rfl); (case' de8 => (first | exact fun _ _ _ => trivial | (intro t ht w; cases ht; simp [upE]))); (case' dr8 => (intro w' hw' _; go_simp; with_reducible rfl)); (case' dh8 => (try simp only [Act.put, List.setIfInBounds_toArray, List.set_cons_zero, List.set_cons_succ])))
      (refine' head_call ?cw9 ?ce9 ?cr9 ?cc9 ?ch9; (case' cw9 => rfl); (case' ce9 => (first | exact fun _ _ _ => trivial | (intro t ht w; cases ht; simp [upE]))); (case' cr9 => (intro w'; go_simp; first | exact ⟨rfl, rfl⟩ | with_reducible rfl)); (case' cc9 => (intro w' hw' _; exact HI.out w')); (case' ch9 => (try simp only [Act.put, List.setIfInBounds_toArray, List.set_cons_zero, List.set_cons_succ])))
      (refine' head_val ?dw10 ?de10 ?dr10 ?dh10; (case' dw10 => rfl); (case' de10 => (first | exact fun _ _ _ => trivial | (intro t ht w; cases ht; simp [upE]))); (case' dr10 => (intro w' hw' _; go_simp; with_reducible rfl)); (case' dh10 => (try simp only [Act.put, List.setIfInBounds_toArray, List.set_cons_zero, List.set_cons_succ]))); (refine' head_val ?dw11 ?de11 ?dr11 ?dh11; (case' dw11 => rfl); (case' de11 => (first | exact fun _ _ _ => trivial | (intro t ht w; cases ht; simp [upE]))); (case' dr11 => (intro w' hw' _; go_simp; with_reducible rfl)); (case' dh11 => (try simp only [Act.put, List.setIfInBounds_toArray, List.set_cons_zero, List.set_cons_succ])))
      refine head_nil ?_
      intro w1 hb _
      replace HB := hid (Grow.trans HB.out hb)
      clear hb
      refine wpList_nil ?_
      go_wp2_with fail
      go_ret
      exact ⟨by rw [← HAP.out]; rfl, HB.out⟩
theorem refNum05' (v : Nat) (hv : v ≤ 4611686018427387904) (w : World) : Calls Try.prog 78 #[.int .i64 (v : Int)] w fun e w' => e = .returned (.string (bs (encN v))) ∧ Below w.heap.size w w' :=
  refNum05 9 v (by have : (128 : Nat) ^ (9 + 1) = 1180591620717411303424 := by { decide }; omega) hv w
theorem refIds05 (A : Option Addr) (n c : Nat) (l : List (List UInt8)) (w : World) (hx : IdRow w A l) (hn : l.length = n) (hl : ∀ s ∈ l, s.length = 32) (hmax : l.length ≤ 100000) :
    Calls Try.prog 79 #[.slice A n c] w fun e w' => e = .returned (.string (bs (encN n ++ l.flatten))) ∧ Below w.heap.size w w' := by
  have HN := hid (refNum05' n (by omega))
  have HA := hid (fun w h => refAll A n c l w h hn hl (by omega))
  have HX := hid hx
  have h1 := bs_size (encN n)
  have h2 := encN_ten n (by omega)
  have h3 := bs_size l.flatten
  have h4 := flatten_take_len l hl l.length (Nat.le_refl _)
  rw [List.take_length] at h4
  have HP := hid (bs_append (encN n) l.flatten)
  have h5 : (bs (encN n)).size ≤ 10 := by omega
  have h6 : (bs l.flatten).size ≤ 3200000 := by omega
  clear hx hn hl h1 h2 h3 h4 hmax
  generalize bs (encN n) = a at *
  generalize bs l.flatten = b at *
  go_enter Try.func79, Try.ntmps79
  have HB := hid (grow_refl w)
  go_wp2_with fail
  refine (HN.out _).mono ?_
  rintro _ w1 ⟨rfl, hb⟩
  replace HB := hid (Grow.trans HB.out hb)
  replace HX := hid (HX.out.grow hb)
  clear hb
  go_wp2_with fail
  refine (HA.out _ HX.out).mono ?_
  rintro _ w2 ⟨rfl, hb⟩
  replace HB := hid (Grow.trans HB.out hb)
  replace HX := hid (HX.out.grow hb)
  clear hb
  go_wp2_with fail
  go_ret
  exact ⟨by rw [← HP.out]; rfl, HB.out⟩
theorem rdByte (g : Nat) (L : List UInt8) (p : Nat) (b : UInt8) (l : List UInt8) (hd : L.drop p = b :: l) (hL : L.length ≤ 1000000000) (w : World) (hg : w.heap[g]? = some (rdOb L p 0)) :
    Calls Try.prog 54 #[ptrV g] w fun r w' => r = .returned (.int .u8 (b.toNat : Int)) ∧ w'.heap[g]? = some (rdOb L (p + 1) 0) ∧ Fr (fun k => k = g) w w' := by
  have hp : p + 1 ≤ L.length := by have := congrArg List.length hd; simp at this; omega
  have HT := hid (show Calls Try.prog 116 #[ptrV g, .int .i64 1] w fun r w' => r = .returned (.tuple #[.string (bs [b]), .bool true]) ∧ w'.heap[g]? = some (rdOb L (p + 1) 0) ∧ Fr (fun k => k = g) w w' from by
    have := rdTake g L p 1 (by omega) hL hp w hg
    rw [hd] at this; exact this)
  have hix : ∀ w, (Instr.index 9 (.string (bs [b])) (.int .i64 0)).run Try.prog w = .ok (.int .u8 (b.toNat : Int)) w := fun w => by
    have := run_index_str (P := Try.prog) 9 (bs [b]) 0 (by rw [bs_size]; exact Nat.zero_lt_one) 0 rfl w Try.underlying9
    rw [this, bl_bs]; rfl
  clear hd hp hg
  unfold ptrV at *
  go_enter Try.func54, Try.ntmps54
  have HB := hid (grow_refl w)
  go_wp2_with fail
  refine HT.out.mono ?_
  rintro _ w1 ⟨rfl, hg, hf⟩
  have HG1 := hid hg
  have HF1 := hid hf
  clear hg hf HT
  go_wp2_with fail
  go_ret
  exact ⟨rfl, HG1.out, HF1.out⟩
end Go.Proofs.Ytabkaflccaklhaa
