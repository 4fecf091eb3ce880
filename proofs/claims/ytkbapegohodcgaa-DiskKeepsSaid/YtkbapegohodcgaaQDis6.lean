/- disk.Copy; the law's example. -/
import Derived.Test.YtkbapegohodcgaaQDis5
set_option linter.unusedSimpArgs false
set_option linter.unusedVariables false
namespace Go.Proofs.Ytkbapegohodcgaa
open Go.RowKit
open Go.Qk hiding rotr b4
set_option maxHeartbeats 1000000
set_option maxRecDepth 100000
theorem dkCopy (g B : Nat) (kv sv wv : Value) (K S : List UInt8) (L : List (Nat × List UInt8)) (w : World) (hK : K.length ≤ 10000000) (hS : S.length ≤ 10000000) (hL : L.length ≤ 1000000) (hk : IsDisk B w g kv sv wv K S L false) :
    Calls Try.prog 18 #[ptrV g] w fun e w' => ∃ g' kv' sv' wv', e = .returned (ptrV g') ∧ w'.heap[g']? = some (dkO kv' sv' wv' false) ∧ w.heap.size ≤ g' ∧ Buf 5 w.heap.size w' kv' K ∧ w'.ownsRow w.heap.size 117 2 wv' L.length (wcells L) ∧ Below w.heap.size w w' := by
  have HK := hid hk
  have HKM := hid hK
  have HSM := hid hS
  have HLM := hid hL
  clear hk hK hS hL
  unfold ptrV
  go_enter Try.func18, Try.ntmps18
  have HB := hid (grow_refl w)
  go_wp2_with fail
  refine wp_region_floatG (fun W => W.heap[g]? = some (dkO kv sv wv false)) [0,1,2,3,5,6,7,8,10,11,12,13,15,16,17,18] [4,9,14] [19,20,21] rfl (by kernel_rfl) rfl (by kernel_rfl) (by kernel_rfl) ?_
  intro wf1 hb
  replace HB := hid (Grow.trans HB.out hb)
  replace HK := hid (HK.out.grow hb)
  clear hb
  refine ⟨HK.out.blk, ?_⟩
  (refine' pickT_val ?po1 ?pw1 ?pr1 ?pq1 ?ph1; (case' po1 => exact rfl); (case' pw1 => rfl); (case' pq1 => (exact fun _ _ _ h => h)); (case' pr1 => (intro w' hw'; go_simp; with_reducible rfl)); (case' ph1 => (try simp only [List.getElem_toArray, List.getElem_cons_zero, List.getElem_cons_succ, Act.put, List.setIfInBounds_toArray, List.set_cons_zero, List.set_cons_succ]))); (refine' pickT_val ?po2 ?pw2 ?pr2 ?pq2 ?ph2; (case' po2 => exact rfl); (case' pw2 => rfl); (case' pq2 => (exact fun _ _ _ h => h)); (case' pr2 => (intro w' hw'; go_simp; with_reducible rfl)); (case' ph2 => (try simp only [List.getElem_toArray, List.getElem_cons_zero, List.getElem_cons_succ, Act.put, List.setIfInBounds_toArray, List.set_cons_zero, List.set_cons_succ]))); (refine' pickT_val ?po3 ?pw3 ?pr3 ?pq3 ?ph3; (case' po3 => exact rfl); (case' pw3 => rfl); (case' pq3 => (exact fun _ _ _ h => h)); (case' pr3 => (intro w' hw'; go_simp; with_reducible rfl)); (case' ph3 => (try simp only [List.getElem_toArray, List.getElem_cons_zero, List.getElem_cons_succ, Act.put, List.setIfInBounds_toArray, List.set_cons_zero, List.set_cons_succ])))
  (refine' pickT_val (v := kv) ?po4 ?pw4 ?pr4 ?pq4 ?ph4; (case' po4 => exact rfl); (case' pw4 => rfl); (case' pq4 => (exact fun _ _ _ h => h)); (case' pr4 => (intro w' hw'; exact run_opLoadC (i := 0) rfl rfl hw' rfl Try.underlying37 rfl)); (case' ph4 => (try simp only [List.getElem_toArray, List.getElem_cons_zero, List.getElem_cons_succ, Act.put, List.setIfInBounds_toArray, List.set_cons_zero, List.set_cons_succ])))
  (refine' pickT_val ?po5 ?pw5 ?pr5 ?pq5 ?ph5; (case' po5 => exact rfl); (case' pw5 => rfl); (case' pq5 => (exact fun _ _ _ h => h)); (case' pr5 => (intro w' hw'; go_simp; with_reducible rfl)); (case' ph5 => (try simp only [List.getElem_toArray, List.getElem_cons_zero, List.getElem_cons_succ, Act.put, List.setIfInBounds_toArray, List.set_cons_zero, List.set_cons_succ]))); (refine' pickT_val ?po6 ?pw6 ?pr6 ?pq6 ?ph6; (case' po6 => exact rfl); (case' pw6 => rfl); (case' pq6 => (exact fun _ _ _ h => h)); (case' pr6 => (intro w' hw'; go_simp; with_reducible rfl)); (case' ph6 => (try simp only [List.getElem_toArray, List.getElem_cons_zero, List.getElem_cons_succ, Act.put, List.setIfInBounds_toArray, List.set_cons_zero, List.set_cons_succ]))); (refine' pickT_val ?po7 ?pw7 ?pr7 ?pq7 ?ph7; (case' po7 => exact rfl); (case' pw7 => rfl); (case' pq7 => (exact fun _ _ _ h => h)); (case' pr7 => (intro w' hw'; go_simp; with_reducible rfl)); (case' ph7 => (try simp only [List.getElem_toArray, List.getElem_cons_zero, List.getElem_cons_succ, Act.put, List.setIfInBounds_toArray, List.set_cons_zero, List.set_cons_succ])))
  (refine' pickT_val (v := sv) ?po8 ?pw8 ?pr8 ?pq8 ?ph8; (case' po8 => exact rfl); (case' pw8 => rfl); (case' pq8 => (exact fun _ _ _ h => h)); (case' pr8 => (intro w' hw'; exact run_opLoadC (i := 1) rfl rfl hw' rfl Try.underlying37 rfl)); (case' ph8 => (try simp only [List.getElem_toArray, List.getElem_cons_zero, List.getElem_cons_succ, Act.put, List.setIfInBounds_toArray, List.set_cons_zero, List.set_cons_succ])))
  (refine' pickT_val ?po9 ?pw9 ?pr9 ?pq9 ?ph9; (case' po9 => exact rfl); (case' pw9 => rfl); (case' pq9 => (exact fun _ _ _ h => h)); (case' pr9 => (intro w' hw'; go_simp; with_reducible rfl)); (case' ph9 => (try simp only [List.getElem_toArray, List.getElem_cons_zero, List.getElem_cons_succ, Act.put, List.setIfInBounds_toArray, List.set_cons_zero, List.set_cons_succ]))); (refine' pickT_val ?po10 ?pw10 ?pr10 ?pq10 ?ph10; (case' po10 => exact rfl); (case' pw10 => rfl); (case' pq10 => (exact fun _ _ _ h => h)); (case' pr10 => (intro w' hw'; go_simp; with_reducible rfl)); (case' ph10 => (try simp only [List.getElem_toArray, List.getElem_cons_zero, List.getElem_cons_succ, Act.put, List.setIfInBounds_toArray, List.set_cons_zero, List.set_cons_succ]))); (refine' pickT_val ?po11 ?pw11 ?pr11 ?pq11 ?ph11; (case' po11 => exact rfl); (case' pw11 => rfl); (case' pq11 => (exact fun _ _ _ h => h)); (case' pr11 => (intro w' hw'; go_simp; with_reducible rfl)); (case' ph11 => (try simp only [List.getElem_toArray, List.getElem_cons_zero, List.getElem_cons_succ, Act.put, List.setIfInBounds_toArray, List.set_cons_zero, List.set_cons_succ])))
  (refine' pickT_val (v := wv) ?po12 ?pw12 ?pr12 ?pq12 ?ph12; (case' po12 => exact rfl); (case' pw12 => rfl); (case' pq12 => (exact fun _ _ _ h => h)); (case' pr12 => (intro w' hw'; exact run_opLoadC (i := 2) rfl rfl hw' rfl Try.underlying110 rfl)); (case' ph12 => (try simp only [List.getElem_toArray, List.getElem_cons_zero, List.getElem_cons_succ, Act.put, List.setIfInBounds_toArray, List.set_cons_zero, List.set_cons_succ])))
  (refine' pickT_val ?po13 ?pw13 ?pr13 ?pq13 ?ph13; (case' po13 => exact rfl); (case' pw13 => rfl); (case' pq13 => (exact fun _ _ _ h => h)); (case' pr13 => (intro w' hw'; go_simp; with_reducible rfl)); (case' ph13 => (try simp only [List.getElem_toArray, List.getElem_cons_zero, List.getElem_cons_succ, Act.put, List.setIfInBounds_toArray, List.set_cons_zero, List.set_cons_succ]))); (refine' pickT_val ?po14 ?pw14 ?pr14 ?pq14 ?ph14; (case' po14 => exact rfl); (case' pw14 => rfl); (case' pq14 => (exact fun _ _ _ h => h)); (case' pr14 => (intro w' hw'; go_simp; with_reducible rfl)); (case' ph14 => (try simp only [List.getElem_toArray, List.getElem_cons_zero, List.getElem_cons_succ, Act.put, List.setIfInBounds_toArray, List.set_cons_zero, List.set_cons_succ]))); (refine' pickT_val ?po15 ?pw15 ?pr15 ?pq15 ?ph15; (case' po15 => exact rfl); (case' pw15 => rfl); (case' pq15 => (exact fun _ _ _ h => h)); (case' pr15 => (intro w' hw'; go_simp; with_reducible rfl)); (case' ph15 => (try simp only [List.getElem_toArray, List.getElem_cons_zero, List.getElem_cons_succ, Act.put, List.setIfInBounds_toArray, List.set_cons_zero, List.set_cons_succ])))
  (refine' pickT_val (v := (.bool false)) ?po16 ?pw16 ?pr16 ?pq16 ?ph16; (case' po16 => exact rfl); (case' pw16 => rfl); (case' pq16 => (exact fun _ _ _ h => h)); (case' pr16 => (intro w' hw'; exact run_opLoadC (i := 3) rfl rfl hw' rfl Try.underlying4 rfl)); (case' ph16 => (try simp only [List.getElem_toArray, List.getElem_cons_zero, List.getElem_cons_succ, Act.put, List.setIfInBounds_toArray, List.set_cons_zero, List.set_cons_succ])))
  refine pickT_nil ?_
  refine seqT_does rfl rfl (does_enter (V := fun v w' => w'.ownsRow _ _ _ v _ _ ∧ Below _ _ w') (by go_simp) (bytesClone kv K B _ HK.out.k (Nat.le_trans HKM.out (by decide))) (fun e w' ⟨v, h1, h2, h3⟩ => ⟨v, h1, h2, h3⟩)) ?_
  intro kv' w2 ⟨hk2, hb⟩
  have HK2 := hid (show Buf 5 w.heap.size w2 kv' K from own_base0 hk2 HB.out.size)
  replace HB := hid (Grow.trans HB.out hb)
  replace HK := hid (HK.out.grow hb)
  clear hb
  refine ⟨HK.out.blk, ?_⟩
  refine seqT_does rfl rfl (does_enter (V := fun v w' => w'.ownsRow _ _ _ v _ _ ∧ Below _ _ w') (by go_simp) (bytesClone sv S B _ HK.out.s (Nat.le_trans HSM.out (by decide))) (fun e w' ⟨v, h1, h2, h3⟩ => ⟨v, h1, h2, h3⟩)) ?_
  intro sv' w3 ⟨hk3, hb⟩
  replace HB := hid (Grow.trans HB.out hb)
  replace HK := hid (HK.out.grow hb)
  replace HK2 := hid (HK2.out.grow hb)
  clear hb
  refine ⟨HK.out.blk, ?_⟩
  refine seqT_does rfl rfl (does_enter (V := fun v w' => w'.ownsRow _ _ _ v _ _ ∧ Below _ _ w') (by go_simp) (writesClone wv L B _ HK.out.l HLM.out) (fun e w' ⟨v, h1, h2, h3⟩ => ⟨v, h1, h2, h3⟩)) ?_
  intro wv' w4 ⟨hk4, hb⟩
  have HW4 := hid (own_rebase (C := w.heap.size) hk4 (fun k hk => Nat.le_trans HB.out.size (own_lt hk4 hk).1))
  replace HB := hid (Grow.trans HB.out hb)
  replace HK := hid (HK.out.grow hb)
  replace HK2 := hid (HK2.out.grow hb)
  clear hb
  refine ⟨HK.out.blk, ?_⟩
  obtain ⟨A1, c1, rfl, _⟩ := own_sl hk2
  obtain ⟨A2, c2, rfl, _⟩ := own_sl hk3
  obtain ⟨A3, c3, rfl, _⟩ := own_sl hk4
  clear hk2 hk3 hk4
  refine seqT_nil ?_
  show wpList _ _ _ (_ :: _ :: _ :: []) _ _
  go_wp2_with (first | (refine op_boxC (cs := dkC (.slice A1 K.length c1) (.slice A2 S.length c2) (.slice A3 L.length c3) false) rfl rfl rfl rfl ?_) | fail)
  intro g5 w5 hgl hgu hb hr
  have HR := hid hr
  have HGL := hid (Nat.le_trans HB.out.size hgl)
  replace HB := hid (Grow.trans HB.out hb)
  replace HK := hid (HK.out.grow hb)
  replace HK2 := hid (HK2.out.grow hb)
  replace HW4 := hid (own_grow HW4.out hb)
  clear hb
  clear hr hgl hgu
  go_wp2_with fail
  go_ret
  exact ⟨g5, _, _, _, rfl, HR.out, HGL.out, HK2.out, HW4.out, HB.out⟩
theorem bitU_zero (i : Nat) : bitU 0 i = false := by
  unfold bitU
  rw [Int.zero_ediv]
  decide
theorem crashX_zero (L : List (Nat × List UInt8)) (K : List UInt8) : crashX (bitU 0) 0 L K = K := by
  rw [crashX_eq]
  have : ∀ i, (crashS (bitU 0) 0 L K i).2 = K := by
    intro i
    induction i with
    | zero => rfl
    | succ i ih =>
      rw [crashS_succ, bitU_zero, if_neg (by decide)]
      split
      · exact ih
      · show put1 (crashS (bitU 0) 0 L K i).2 (L.getD i (0, [])).1 (List.take 0 (L.getD i (0, [])).2) = K
        rw [List.take_zero, put1, if_pos rfl, ih]
  exact this _
/-- What is kept ahead of all that waits is kept. -/
theorem putL_pre (l : List UInt8) (p : Nat) (s pre : List UInt8) (h1 : pre <+: l) (h2 : pre.length ≤ p) : pre <+: putL l p s := by
  obtain ⟨t, rfl⟩ := h1
  unfold putL
  rw [List.append_assoc pre t, List.take_append, List.take_of_length_le h2]
  simp only [List.append_assoc]
  exact List.prefix_append _ _
theorem put1_pre (l : List UInt8) (p : Nat) (s pre : List UInt8) (h1 : pre <+: l) (h2 : pre.length ≤ p) : pre <+: put1 l p s := by
  unfold put1; split
  · exact h1
  · exact putL_pre l p s pre h1 h2
theorem crashX_pre (bt : Nat → Bool) (c : Nat) (L : List (Nat × List UInt8)) (K pre : List UInt8) (h : pre <+: K) (hL : ∀ x ∈ L, pre.length ≤ x.1) : pre <+: crashX bt c L K := by
  rw [crashX_eq]
  have : ∀ i, i ≤ L.length → pre <+: (crashS bt c L K i).2 := by
    intro i
    induction i with
    | zero => intro _; exact h
    | succ i ih =>
      intro hi
      have hx := hL (L.getD i (0, [])) (by rw [List.getD_eq_getElem?_getD, List.getElem?_eq_getElem (by omega)]; simp)
      rw [crashS_succ]
      split
      · exact put1_pre _ _ _ _ (ih (by omega)) hx
      · split
        · exact ih (by omega)
        · exact put1_pre _ _ _ _ (ih (by omega)) hx
  exact this _ (Nat.le_refl _)
def addW (L : List (Nat × List UInt8)) (p : Nat) (l : List UInt8) : List (Nat × List UInt8) := if l = [] then L else L ++ [(p, l)]
theorem putL_end (S l : List UInt8) : putL S S.length l = S ++ l := by
  unfold putL
  rw [List.take_append_of_le_length (Nat.le_refl _), List.take_of_length_le (Nat.le_refl _), List.drop_of_length_le (by simp), List.append_nil]
theorem IsDisk.below {B : Nat} {w w' : World} {g : Nat} {kv sv wv : Value} {K S : List UInt8} {L : List (Nat × List UInt8)} {down : Bool} (h : IsDisk B w g kv sv wv K S L down) (hB : B ≤ w.heap.size) (hf : Fr (DkD g sv wv) w w') : Below B w w' :=
  hf.below (fun k hk => by
    rcases hk with rfl | hk | hk
    · exact h.gB
    · exact (own_lt h.s hk).1
    · exact (own_lt h.l hk).1) hB
/-- Bytes put in behind all. -/
theorem dkAppend (g B : Nat) (kv sv wv : Value) (K S l : List UInt8) (L : List (Nat × List UInt8)) (w : World) (hp : S.length + l.length ≤ 4194304) (hL : L.length ≤ 1000000)
    (hk : IsDisk B w g kv sv wv K S L false) (hB : B ≤ w.heap.size) :
    Calls Try.prog 15 #[ptrV g, .int .i64 (S.length : Int), .string (bs l)] w fun e w' => e = .returned (.int .i64 0) ∧ ∃ sv' wv', IsDisk B w' g kv sv' wv' K (S ++ l) (addW L S.length l) false ∧ Below B w w' := by
  by_cases hl : l = []
  · subst hl
    refine (dkWrite_nil g B kv sv wv K S L w S.length (Nat.le_refl _) (by omega) (by omega) hk).mono ?_
    rintro e w' ⟨rfl, hg⟩
    refine ⟨rfl, sv, wv, ?_, hg.mono hB⟩
    rw [List.append_nil]; exact hk.grow hg
  · refine (dkWrite g B kv sv wv K S l L w S.length hl (Nat.le_refl _) hp (by omega) hL hk hB).mono ?_
    rintro e w' ⟨rfl, sv', wv', h1, h2, _, _⟩
    refine ⟨rfl, sv', wv', ?_, hk.below hB h2⟩
    rw [putL_end] at h1
    unfold addW; rw [if_neg hl]; exact h1
theorem awake24 (w : World) : Calls Try.prog 13 #[] w fun e w' => e = .returned (.bool true) ∧ Below w.heap.size w w' := by
  go_enter Try.func13, Try.ntmps13
  have HB := hid (grow_refl w)
  clear HB
  go_wp2_with fail
  refine (dkNew _).mono ?_
  rintro e w1 ⟨g, rfl, hk, hb⟩
  have HK := hid hk
  have HB1 := hid hb
  clear hk hb
  go_wp2_with fail
  refine (dkAppend g w.heap.size _ _ _ [] [] [97, 98] [] _ (by decide) (by decide) HK.out HB1.out.size).mono ?_
  rintro e w2 ⟨rfl, sv, wv, hk, hb⟩
  have HK2 := hid hk
  have HB2 := hid (HB1.out.trans hb)
  clear hk hb HK HB1
  go_wp2_with fail
  refine (dkSync g w.heap.size _ _ _ _ _ _ _ (by decide) HB2.out.size HK2.out).mono ?_
  rintro e w3 ⟨rfl, kv, hk, hf, _⟩
  have HK3 := hid hk
  have HB3 := hid (HB2.out.trans (hf.below (B := w.heap.size) (fun k hk => by subst hk; exact HK2.out.gB) HB2.out.size))
  clear hk hf HK2 HB2
  go_wp2_with fail
  refine (dkAppend g w.heap.size _ _ _ _ _ [99, 100] [] _ (by decide) (by decide) HK3.out HB3.out.size).mono ?_
  rintro e w4 ⟨rfl, sv4, wv4, hk, hb⟩
  have HK4 := hid hk
  have HB4 := hid (HB3.out.trans hb)
  clear hk hb HK3 HB3
  go_wp2_with fail
  refine (dkCrash g w.heap.size _ _ _ _ _ _ 0 (by decide) (by decide) 1 (by decide) (by decide) (by decide) HK4.out.blk HK4.out.gB HK4.out.k HK4.out.l HB4.out.size).mono ?_
  rintro e w5 ⟨rfl, kv5, sv5, hg5, hk5, hs5, hf5⟩
  have HG5 := hid hg5
  have e5 : crashX (bitU 0) (max 1 0 : Int).toNat (addW [] [97, 98].length [99, 100]) ([] ++ [97, 98]) = [97, 98, 99] := by decide +kernel
  have HS5 := hid (show Buf 5 w.heap.size w5 sv5 [97, 98, 99] by rw [← e5]; exact hs5)
  have HB5 := hid (HB4.out.trans (hf5.below (B := w.heap.size) (fun k hk => by
    rcases hk with rfl | hk
    · exact HK4.out.gB
    · exact (own_lt HK4.out.k hk).1) HB4.out.size))
  clear hg5 hk5 hs5 hf5 e5 HK4 HB4
  go_wp2_with fail
  refine (dkAll g _ _ _ [97, 98, 99] _ _ _ HG5.out HS5.out).mono ?_
  rintro e w6 ⟨rfl, rfl⟩
  have hq : (bs [97, 98, 99]).toList = [97, 98, 99] := by rw [toList_bl, bl_bs]
  go_wp2_with fail
  refine (dkDown g _ _ _ _ _ HG5.out).mono ?_
  rintro e w6 ⟨rfl, rfl⟩
  go_wp2_with fail
  go_ret
  exact ⟨rfl, HB5.out⟩
end Go.Proofs.Ytkbapegohodcgaa
