/- the reference's Fold: contracts. -/
import Derived.Test.YtffgifegaagndaaQKeyA
import Derived.Test.YtffgifegaagndaaQRowR
set_option linter.unusedSimpArgs false
set_option linter.unusedVariables false
namespace Go.Proofs.Ytffgifegaagndaa
open Go.RowKit
open Go.Qk hiding rotr b4
set_option maxHeartbeats 1000000
set_option maxRecDepth 100000
theorem refFold7 : ∀ (h : Nat) (A : Option Addr) (n c : Nat) (xs : List IdK) (w : World), IdRow w A xs → xs.length = n → n = 2 ^ h → n ≤ c → h ≤ 10 → (∀ s ∈ xs, s.length = 32) →
    Calls Try.prog 27 #[.slice A n c] w fun e w' => e = .returned (idV (foldRef h xs)) ∧ Below w.heap.size w w'
  | 0, A, n, c, xs, w, hx, hn, hp, hc, hh, h32 => by
    obtain rfl : n = 1 := hp
    obtain ⟨ad, rfl, hcell⟩ := hx.at_ 0 (by omega)
    have S32 := hid (show (foldRef 0 xs).length = 32 from getD_mem_len h32 (show 0 < xs.length by omega))
    have HC := hid (show ∀ j v, (u8s (foldRef 0 xs))[j]? = some v → w.cell? (ad.add j) = some v from fun j v hv => hcell j v hv)
    clear hx hn hc h32 hcell
    go_enter Try.func27, Try.ntmps27
    apply wp_seq_k; intro _ _; apply wp_region_lit
    refine op_alloc rfl rfl ?_
    intro gr W hgl hgu hb hr
    have HR := hid hr; have HB := hid hb; have HRL := hid hgl; have HRU := hid hgu
    clear hr hb hgl hgu
    try simp only [Act.put, List.setIfInBounds_toArray, List.set_cons_zero, List.set_cons_succ]
    refine wpList_nil ?_
    go_wp2_with (first | (refine op_loadAt (l := foldRef 0 xs) rfl rfl rfl (fun j v hv => grow_cell (HC.out j v hv) HB.out) S32.out ?_) |  (refine op_buildId rfl rfl ?_) | (refine op_storeId (l := foldRef 0 xs) rfl rfl rfl rfl rfl HR.out (by rfl) (S32.out) ?_))
    intro wz hz _ hbz
    have HZ := hid hz; have HBZ := hid (hbz _ _ HB.out HRL.out)
    clear hz hbz
    go_wp2_with fail
    refine bodyPost_ret (ret_id rfl rfl HZ.out (S32.out)) rfl ⟨?_, HBZ.out⟩
    rfl
  | h + 1, A, n, c, xs, w, hx, hn, hp, hc, hh, h32 => by
    obtain ⟨ad, rfl, _⟩ := hx.at_ 0 (by rw [hn, hp]; exact Nat.pow_pos (by omega))
    have hp2 : 2 ^ (h + 1) = 2 * 2 ^ h := by rw [Nat.pow_succ, Nat.mul_comm]
    have hp3 : 0 < 2 ^ h := Nat.pow_pos (by omega)
    have hp4 : 2 ^ h ≤ 2 ^ 10 := Nat.pow_le_pow_right (by omega) (by omega)
    have HF := hid (show foldRef (h + 1) xs = nd (foldRef h (xs.take (2 ^ h))) (foldRef h (xs.drop (2 ^ h))) from rfl)
    obtain ⟨q, hq⟩ : ∃ q, 2 ^ h = q := ⟨_, rfl⟩
    rw [hq] at hp2 hp3 hp4 HF
    have n1 : (n : Int) ≤ 2048 := by omega
    have t1 : ((n : Int) == 1) = false := by simp; omega
    have hdv : (n : Int) / 2 = (q : Int) := by omega
    have C1 := fun w => refFold7 h (some ad) q c (xs.take q) w
    have C2 := fun w => refFold7 h (some (ad.add (q * 32))) (n - q) (c - q) (xs.drop q) w
    have HT := hid (fun w (hx : IdRow w (some ad) xs) => C1 w (idRow_take hx q) (by rw [List.length_take]; omega) hq.symm (by omega) (by omega) (fun s hs => h32 s (List.mem_of_mem_take hs)))
    have HD := hid (fun w (hx : IdRow w (some ad) xs) => C2 w (idRow_drop hx q) (by rw [List.length_drop]; omega) (by omega) (by omega) (by omega) (fun s hs => h32 s (List.mem_of_mem_drop hs)))
    have F1 : (foldRef h (xs.take q)).length = 32 := by rw [foldRef_top _ _ (by rw [List.length_take]; omega)]; exact foldTop_32 _ _ (by rw [List.length_take]; omega) (fun s hs => h32 s (List.mem_of_mem_take hs))
    have F2 : (foldRef h (xs.drop q)).length = 32 := by rw [foldRef_top _ _ (by rw [List.length_drop]; omega)]; exact foldTop_32 _ _ (by rw [List.length_drop]; omega) (fun s hs => h32 s (List.mem_of_mem_drop hs))
    have G1 := hid F1
    have G2 := hid F2
    have e1 : (q : Int) ≤ (c : Int) := by omega
    have e2 : (q : Int) ≤ (n : Int) := by omega
    have e3 : (n : Int) ≤ (c : Int) := by omega
    have e4 : ¬ c = q := by omega
    have e5 : (0 : Int) ≤ (q : Int) := by omega
    have HX := hid hx
    have ND := hid (nd_length (foldRef h (xs.take q)) (foldRef h (xs.drop q)))
    rw [HF.out]
    generalize foldRef h (xs.take q) = r1 at *
    generalize foldRef h (xs.drop q) = r2 at *
    clear hx hn hp hc h32 C1 C2 F1 F2 hp2 hp3 hp4 hq HF
    go_enter Try.func27, Try.ntmps27
    apply wp_seq_k; intro _ _; apply wp_region_lit
    refine op_alloc rfl rfl ?_
    intro gr W hgl hgu hb hr
    have HR := hid hr; have HB := hid hb; have HRL := hid hgl; have HRU := hid hgu
    clear hr hb hgl hgu
    try simp only [Act.put, List.setIfInBounds_toArray, List.set_cons_zero, List.set_cons_succ]
    refine wpList_nil ?_
    go_wp2_with fail
    (refine' wp_region_head 9 1 [_, _, _, _, _, _, _, _, _] rfl (by kernel_rfl) (by kernel_rfl) ?hreg1; case' hreg1 => simp only [List.take_succ_cons, List.take_zero, List.zip_cons_cons, List.zip_nil_right, List.drop_succ_cons, List.drop_zero, List.drop_nil])
    (refine' head_val ?dw2 ?de2 ?dr2 ?dh2; (case' dw2 => rfl); (case' de2 => (first | exact fun _ _ _ => trivial | (intro t ht w; cases ht; simp [upE]))); (case' dr2 => (intro w' hw' _; go_simp; with_reducible rfl)); (case' dh2 => (try simp only [Act.put, List.setIfInBounds_toArray, List.set_cons_zero, List.set_cons_succ]))); (refine' head_val ?dw3 ?de3 ?dr3 ?dh3; (case' dw3 => rfl); (case' de3 => (first | exact fun _ _ _ => trivial | (intro t ht w; cases ht; simp [upE]))); (case' dr3 => (intro w' hw' _; go_simp; with_reducible rfl)); (case' dh3 => (try simp only [Act.put, List.setIfInBounds_toArray, List.set_cons_zero, List.set_cons_succ]))); (refine' head_val ?dw4 ?de4 ?dr4 ?dh4; (case' dw4 => rfl); (case' de4 => (first | exact fun _ _ _ => trivial | (intro t ht w; cases ht; simp [upE]))); (case' dr4 => (intro w' hw' _; go_simp; with_reducible rfl)); (case' dh4 => (try simp only [Act.put, List.setIfInBounds_toArray, List.set_cons_zero, List.set_cons_succ])))
    (refine' head_call ?cw5 ?ce5 ?cr5 ?cc5 ?ch5; (case' cw5 => rfl); (case' ce5 => (first | exact fun _ _ _ => trivial | (intro t ht w; cases ht; simp [upE]))); (case' cr5 => (intro w'; go_simp; first | exact ⟨rfl, rfl⟩ | with_reducible rfl)); (case' cc5 => (intro w' hw' _; exact HT.out w' (HX.out.grow (Grow.trans HB.out hw')))); (case' ch5 => (try simp only [Act.put, List.setIfInBounds_toArray, List.set_cons_zero, List.set_cons_succ])))
    (refine' head_val ?dw6 ?de6 ?dr6 ?dh6; (case' dw6 => rfl); (case' de6 => (first | exact fun _ _ _ => trivial | (intro t ht w; cases ht; simp [upE]))); (case' dr6 => (intro w' hw' _; go_simp; with_reducible rfl)); (case' dh6 => (try simp only [Act.put, List.setIfInBounds_toArray, List.set_cons_zero, List.set_cons_succ]))); (refine' head_val ?dw7 ?de7 ?dr7 ?dh7; (case' dw7 => rfl); (case' de7 => (first | exact fun _ _ _ => trivial | (intro t ht w; cases ht; simp [upE]))); (case' dr7 => (intro w' hw' _; go_simp; with_reducible rfl)); (case' dh7 => (try simp only [Act.put, List.setIfInBounds_toArray, List.set_cons_zero, List.set_cons_succ]))); (refine' head_val ?dw8 ?de8 ?dr8 ?dh8; (case' dw8 => rfl); (case' de8 => (first | exact fun _ _ _ => trivial | (intro t ht w; cases ht; simp [upE]))); (case' dr8 => (intro w' hw' _; go_simp; with_reducible rfl)); (case' dh8 => (try simp only [Act.put, List.setIfInBounds_toArray, List.set_cons_zero, List.set_cons_succ])))
    (refine' head_call ?cw9 ?ce9 ?cr9 ?cc9 ?ch9; (case' cw9 => rfl); (case' ce9 => (first | exact fun _ _ _ => trivial | (intro t ht w; cases ht; simp [upE]))); (case' cr9 => (intro w'; go_simp; first | exact ⟨rfl, rfl⟩ | with_reducible rfl)); (case' cc9 => (intro w' hw' _; exact HD.out w' (HX.out.grow (Grow.trans HB.out hw')))); (case' ch9 => (try simp only [Act.put, List.setIfInBounds_toArray, List.set_cons_zero, List.set_cons_succ])))
    (refine' head_call ?cw10 ?ce10 ?cr10 ?cc10 ?ch10; (case' cw10 => rfl); (case' ce10 => (first | exact fun _ _ _ => trivial | (intro t ht w; cases ht; simp [upE]))); (case' cr10 => (intro w'; go_simp; first | exact ⟨rfl, rfl⟩ | with_reducible rfl)); (case' cc10 => (intro w' hw' _; exact refPair nodeName r1 r2 G1.out G2.out (by decide) w')); (case' ch10 => (try simp only [Act.put, List.setIfInBounds_toArray, List.set_cons_zero, List.set_cons_succ])))
    refine head_nil ?_
    intro w1 hb _
    replace HR := hid (grow_block HR.out hb)
    replace HB := hid (Grow.trans HB.out hb)
    clear hb
    go_wp2_with (first | (refine op_loadAt (l := foldRef 0 xs) rfl rfl rfl (fun j v hv => grow_cell (HC.out j v hv) HB.out) S32.out ?_) |  (refine op_buildId rfl rfl ?_) | (refine op_storeId (l := nd r1 r2) rfl rfl rfl rfl rfl HR.out (by rfl) (ND.out) ?_))
    intro wz hz _ hbz
    have HZ := hid hz; have HBZ := hid (hbz _ _ HB.out HRL.out)
    clear hz hbz
    go_wp2_with fail
    refine bodyPost_ret (ret_id rfl rfl HZ.out (ND.out)) rfl ⟨?_, HBZ.out⟩
    rfl
end Go.Proofs.Ytffgifegaagndaa
