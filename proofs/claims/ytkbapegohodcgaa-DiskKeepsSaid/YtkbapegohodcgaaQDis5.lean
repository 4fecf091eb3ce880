/- disk.Crash. -/
import Derived.Test.YtkbapegohodcgaaQDis4
import Derived.Test.YtkbapegohodcgaaQSet1
set_option linter.unusedSimpArgs false
set_option linter.unusedVariables false
namespace Go.Proofs.Ytkbapegohodcgaa
open Go.RowKit
open Go.Qk hiding rotr b4
set_option maxHeartbeats 1000000
set_option maxRecDepth 100000
def put1 (k : List UInt8) (p : Nat) (s : List UInt8) : List UInt8 := if s = [] then k else putL k p s
def crashS (bt : Nat → Bool) (c : Nat) (L : List (Nat × List UInt8)) (K : List UInt8) : Nat → Bool × List UInt8
  | 0 => (false, K)
  | i + 1 => if bt i = true then ((crashS bt c L K i).1, put1 (crashS bt c L K i).2 (L.getD i (0, [])).1 (L.getD i (0, [])).2)
    else if (crashS bt c L K i).1 = true then crashS bt c L K i else (true, put1 (crashS bt c L K i).2 (L.getD i (0, [])).1 ((L.getD i (0, [])).2.take c))
def bitU (m : Int) (i : Nat) : Bool := bits BinOp.and IntKind.u64 (m / 2 ^ (i % 64)) 1 == 1
theorem wcells_get : ∀ (L : List (Nat × List UInt8)) (i : Nat), i < L.length → ∀ (j : Nat) v, [Value.int .i64 ((L.getD i (0, [])).1 : Int), .string (bs (L.getD i (0, [])).2)][j]? = some v → (wcells L)[i * 2 + j]? = some v
  | [], i, h, _, _, _ => by simp at h
  | x :: L, 0, _, j, v, hj => by
    have hl := (List.getElem?_eq_some_iff.1 hj).1
    show (([Value.int .i64 (x.1 : Int), .string (bs x.2)] : List Value) ++ wcells L)[0 * 2 + j]? = some v
    rw [List.getElem?_append_left (by simpa using hl)]
    simpa using hj
  | x :: L, i + 1, h, j, v, hj => by
    show (([Value.int .i64 (x.1 : Int), .string (bs x.2)] : List Value) ++ wcells L)[(i + 1) * 2 + j]? = some v
    rw [List.getElem?_append_right (by simp; omega)]
    have := wcells_get L i (by simpa using h) j v (by simpa using hj)
    rw [← this]; congr 1; simp; omega
theorem crashS_succ (bt : Nat → Bool) (c : Nat) (L : List (Nat × List UInt8)) (K : List UInt8) (i : Nat) : crashS bt c L K (i + 1) = if bt i = true then ((crashS bt c L K i).1, put1 (crashS bt c L K i).2 (L.getD i (0, [])).1 (L.getD i (0, [])).2)
    else if (crashS bt c L K i).1 = true then crashS bt c L K i else (true, put1 (crashS bt c L K i).2 (L.getD i (0, [])).1 ((L.getD i (0, [])).2.take c)) := rfl
theorem infoStr : (Try.prog.info? 9).map (·.size) = some 1 := by kernel_rfl
theorem _root_.List.take_min_len {α : Type} (l : List α) (n : Nat) : l.take (min n l.length) = l.take n := by
  rcases Nat.le_total n l.length with h | h
  · rw [Nat.min_eq_left h]
  · rw [Nat.min_eq_right h, List.take_of_length_le (Nat.le_refl _), List.take_of_length_le h]
def crashX (bt : Nat → Bool) (c : Nat) (L : List (Nat × List UInt8)) (K : List UInt8) : List UInt8 := (crashS bt c L K L.length).2
theorem crashX_eq (bt : Nat → Bool) (c : Nat) (L : List (Nat × List UInt8)) (K : List UInt8) : crashX bt c L K = (crashS bt c L K L.length).2 := rfl
theorem own_base0 {w : World} {B C : Nat} {l : List UInt8} {v : Value} (h : w.ownsRow C 5 1 v l.length (u8s l)) (hB : B ≤ C) : Buf 5 B w v l := own_rebase h (fun k hk => Nat.le_trans hB (own_lt h hk).1)
theorem infoBool : (Try.prog.info? 4).map (·.size) = some 1 := by kernel_rfl
theorem infoFuse : (Try.prog.info? 112).map (·.size) = some 4 := by kernel_rfl
theorem one4 : ∀ v ∈ [Value.bool false, .int .i64 0, .int .u64 0, .int .i64 0], v.oneCell' = true := by
  intro v hv
  simp at hv
  rcases hv with rfl | rfl | rfl | rfl <;> rfl
theorem putL_length (l : List UInt8) (p : Nat) (s : List UInt8) : (putL l p s).length = max l.length (p + s.length) := by unfold putL; simp; omega
theorem put1_length (l : List UInt8) (p : Nat) (s : List UInt8) (M : Nat) (h1 : l.length ≤ M) (h2 : p + s.length ≤ M) : (put1 l p s).length ≤ M := by
  unfold put1; split
  · exact h1
  · rw [putL_length]; omega
theorem crashS_len (bt : Nat → Bool) (c : Nat) (L : List (Nat × List UInt8)) (K : List UInt8) (M : Nat) (hK : K.length ≤ M) (hL : ∀ x ∈ L, x.1 + x.2.length ≤ M) : ∀ i, i ≤ L.length → (crashS bt c L K i).2.length ≤ M
  | 0, _ => hK
  | i + 1, hi => by
    have ih := crashS_len bt c L K M hK hL i (by omega)
    have hx := hL (L.getD i (0, [])) (by rw [List.getD_eq_getElem?_getD, List.getElem?_eq_getElem (by omega)]; simp)
    unfold crashS
    split
    · exact put1_length _ _ _ _ ih hx
    · split
      · exact ih
      · exact put1_length _ _ _ _ ih (by rw [List.length_take]; omega)
theorem dkCrash (g B : Nat) (kv sv wv : Value) (K : List UInt8) (L : List (Nat × List UInt8)) (w : World) (m : Int) (hm0 : 0 ≤ m) (hm1 : m ≤ 18446744073709551615) (count : Int) (hK : K.length ≤ 4194304) (hL : ∀ x ∈ L, x.1 + x.2.length ≤ 4194304) (hLn : L.length ≤ 1000000)
    (hg : w.heap[g]? = some (dkO kv sv wv false)) (hgB : B ≤ g) (hk : Buf 5 B w kv K) (hl : w.ownsRow B 117 2 wv L.length (wcells L)) (hB : B ≤ w.heap.size) :
    Calls Try.prog 20 #[ptrV g, .int .u64 m, .int .i64 count] w fun e w' => e = .returned (.tuple #[]) ∧ ∃ kv' sv', w'.heap[g]? = some (dkO kv' sv' (.slice none 0 0) true) ∧ Buf 5 B w' kv' (crashX (bitU m) (max count 0).toNat L K) ∧ Buf 5 B w' sv' (crashX (bitU m) (max count 0).toNat L K) ∧ Fr (fun k => k = g ∨ kv.ownBlock = some k) w w' := by
  have HG := hid hg
  have HK := hid hk
  have HL := hid hl
  have HBW := hid hB
  obtain ⟨A, c, hwv, hsl⟩ := own_sl hl
  subst hwv
  have HSLC := hid hsl
  have HKM := hid hK
  have HLM := hid hL
  clear hg hk hl hB hsl hK hL
  unfold ptrV
  go_enter Try.func20, Try.ntmps20
  have HB := hid (grow_refl w)
  go_wp2_with (first | (refine opG_load1 (i := 0) (v := kv) rfl rfl rfl HG.out rfl Try.underlying37 rfl ?_) | (refine opG_load1 (i := 1) (v := sv) rfl rfl rfl HG.out rfl Try.underlying37 rfl ?_) | (refine opG_load1 (i := 2) (v := (.slice A L.length c)) rfl rfl rfl HG.out rfl Try.underlying110 rfl ?_) | (refine opG_load1 (i := 3) (v := (.bool false)) rfl rfl rfl HG.out rfl Try.underlying4 rfl ?_) | (refine opG_load1 (i := 4) (v := (.bool false)) rfl rfl rfl HG.out rfl Try.underlying4 rfl ?_) | (refine opG_load1 (i := 5) (v := (.int .i64 0)) rfl rfl rfl HG.out rfl Try.underlying3 rfl ?_) | (refine opG_load1 (i := 6) (v := (.int .u64 0)) rfl rfl rfl HG.out rfl Try.underlying23 rfl ?_) | (refine opG_load1 (i := 7) (v := (.int .i64 0)) rfl rfl rfl HG.out rfl Try.underlying3 rfl ?_) |  fail)
  have HF := hid (Fr.refl (fun k => k = g ∨ kv.ownBlock = some k) w)
  have HM := hid (moved_refl w kv)
  go_loopg [6, 18] (L.length + 1) (fun z t x wr => ∃ (i : Nat) (kv' : Value), i ≤ L.length ∧ z = L.length + 1 - i ∧ x = .int .i64 (i : Int) ∧ t = .bool (crashS (bitU m) (max count 0).toNat L K i).1 ∧ Hid (wr.heap[g]? = some (dkO kv' sv (.slice A L.length c) false)) ∧ Hid (Buf 5 B wr kv' (crashS (bitU m) (max count 0).toNat L K i).2) ∧ Hid (wr.ownsRow B 117 2 (.slice A L.length c) L.length (wcells L)) ∧ Hid (Fr (fun k => k = g ∨ kv.ownBlock = some k) w wr) ∧ Hid (Moved w kv kv'))
  case atStart => exact ⟨0, kv, by omega, by omega, rfl, rfl, HG, HK, HL, HF, HM⟩
  case round =>
    clear HG HK HL HF HM HB HSLC
    obtain ⟨i, kv', hi, hz, rfl, rfl, HG, HK, HL, HF, HM⟩ := hrel
    by_cases hlt : i < L.length
    · have i0 : (0 : Int) ≤ (i : Int) := by omega
      obtain ⟨_, _, e1, hsl⟩ := own_sl HL.out
      cases e1
      obtain ⟨ad, rfl, hc⟩ := hsl (by intro e; have := wcells_length L; rw [e] at this; simp at this; omega)
      obtain ⟨p, s, hps⟩ : ∃ p s, L.getD i (0, []) = (p, s) := ⟨_, _, rfl⟩
      have hx := HLM.out (L.getD i (0, [])) (by rw [List.getD_eq_getElem?_getD, List.getElem?_eq_getElem (by omega)]; simp)
      rw [hps] at hx
      have hx' : p + s.length ≤ 4194304 := hx
      have HCC := hid (show ∀ j v, [Value.int .i64 (p : Int), .string (bs s)][j]? = some v → wr.cell? ((ad.add (i * 2)).add j) = some v from fun j v hj => by
        rw [addr_add_add]; exact hc _ _ (wcells_get L i hlt j v (by rw [hps]; exact hj)))
      have hsz := bs_size s
      have HCS := hid (crashS_succ (bitU m) (max count 0).toNat L K i)
      have HKL := hid (crashS_len (bitU m) (max count 0).toNat L K 4194304 HKM.out HLM.out i (by omega))
      have HPS := hid hps
      clear hc hsl hx hps
      have HB := hid (grow_refl wr)
      generalize crashS (bitU m) (max count 0).toNat L K i = ci at *
      generalize hcj : crashS (bitU m) (max count 0).toNat L K (i + 1) = cj at *
      have HCJE := hid hcj
      clear hcj
      obtain ⟨torn, KI⟩ := ci
      have HG0 := HG; have HK0 := HK; have HL0 := HL; have HF0 := HF
      cases hb1 : (bits BinOp.and IntKind.u64 (m / 2 ^ (i % 64)) 1 == 1) with
      | true =>
        have HCJ := hid (show cj = (torn, put1 KI p s) by rw [HCS.out, if_pos (show bitU m i = true from hb1), HPS.out])
        clear HCS
        by_cases hs0 : s = []
        · have HS0 := hid hs0
          have hem : (bs s).toList.isEmpty = true := by rw [toList_bl, bl_bs, hs0]; rfl
          clear hs0
          go_wp2_with (first | (refine wpList_load_agg rfl 117 _ rfl _ rfl [Value.int .i64 (p : Int), .string (bs s)] _ HCC.out Try.underlying117 rfl (by rw [infoWr2]; rfl) ?_) | (refine op_allocC (z := undef) (cs := #[.int .i64 0, .string ByteArray.empty]) rfl rfl (fun _ => by kernel_rfl) ?_) | fail)
          intro g4 w4 hgl hgu hb4 hr
          clear HCC
          go_wp2_with (first | (refine store_block 117 _ _ g4 0 [.int .i64 (p : Int), .string (bs s)] [.int .i64 0, .string ByteArray.empty] [.int .i64 (p : Int), .string (bs s)] 117 rfl rfl rfl rfl rfl hr (by rw [infoWr2]; rfl) (by simp) one2 rfl ?_) | fail)
          intro w5 hr5 _ hb5
          have hb := hb5 _ _ hb4 hgl
          have H4 := hid hr5
          have HGL := hid (Nat.le_trans HB.out.size hgl)
          replace HB := hid (Grow.trans HB.out hb)
          replace HG := hid (grow_block HG.out hb)
          replace HK := hid (HK.out.grow hb)
          replace HL := hid (own_grow HL.out hb)
          replace HF := hid (Fr.trans HF.out (fr_grow hb))
          clear hb
          clear hr hgl hgu hb4 hr5 hb5
          go_wp2_with (first | (refine opG_load1 (i := 0) (v := kv) rfl rfl rfl HG.out rfl Try.underlying37 rfl ?_) | (refine opG_load1 (i := 1) (v := sv) rfl rfl rfl HG.out rfl Try.underlying37 rfl ?_) | (refine opG_load1 (i := 2) (v := (.slice A L.length c)) rfl rfl rfl HG.out rfl Try.underlying110 rfl ?_) | (refine opG_load1 (i := 3) (v := (.bool false)) rfl rfl rfl HG.out rfl Try.underlying4 rfl ?_) | (refine opG_load1 (i := 4) (v := (.bool false)) rfl rfl rfl HG.out rfl Try.underlying4 rfl ?_) | (refine opG_load1 (i := 5) (v := (.int .i64 0)) rfl rfl rfl HG.out rfl Try.underlying3 rfl ?_) | (refine opG_load1 (i := 6) (v := (.int .u64 0)) rfl rfl rfl HG.out rfl Try.underlying23 rfl ?_) | (refine opG_load1 (i := 7) (v := (.int .i64 0)) rfl rfl rfl HG.out rfl Try.underlying3 rfl ?_) | (refine opG_load1 (i := 0) (v := (.int .i64 (p : Int))) rfl rfl rfl H4.out rfl Try.underlying3 rfl ?_) | (refine opG_load1 (i := 1) (v := (.string (bs s))) rfl rfl rfl H4.out rfl Try.underlying9 rfl ?_) |  fail)
          have HK7 := hid (show Buf 5 B w5 kv' cj.2 by rw [HCJ.out]; unfold put1; rw [if_pos HS0.out]; exact HK.out)
          have HCT := hid (show cj.1 = torn by rw [HCJ.out])
          go_wp2_with fail
          go_roundg (L.length + 1 - (i + 1))
          case rel => exact ⟨i + 1, kv', by omega, rfl, by go_num, by rw [HCJE.out, HCT.out], HG, by rw [HCJE.out]; exact HK7, HL, HF, HM⟩
          case measure => omega
        · have HNE := hid hs0
          have HLS := hid (show p + s.length ≤ 10000000 by omega)
          have hem : (bs s).toList.isEmpty = false := by rw [toList_bl, bl_bs]; cases s with
            | nil => exact absurd rfl hs0
            | cons => rfl
          clear hs0
          go_wp2_with (first | (refine wpList_load_agg rfl 117 _ rfl _ rfl [Value.int .i64 (p : Int), .string (bs s)] _ HCC.out Try.underlying117 rfl (by rw [infoWr2]; rfl) ?_) | (refine op_allocC (z := undef) (cs := #[.int .i64 0, .string ByteArray.empty]) rfl rfl (fun _ => by kernel_rfl) ?_) | fail)
          intro g4 w4 hgl hgu hb4 hr
          clear HCC
          go_wp2_with (first | (refine store_block 117 _ _ g4 0 [.int .i64 (p : Int), .string (bs s)] [.int .i64 0, .string ByteArray.empty] [.int .i64 (p : Int), .string (bs s)] 117 rfl rfl rfl rfl rfl hr (by rw [infoWr2]; rfl) (by simp) one2 rfl ?_) | fail)
          intro w5 hr5 _ hb5
          have hb := hb5 _ _ hb4 hgl
          have H4 := hid hr5
          have HGL := hid (Nat.le_trans HB.out.size hgl)
          replace HB := hid (Grow.trans HB.out hb)
          replace HG := hid (grow_block HG.out hb)
          replace HK := hid (HK.out.grow hb)
          replace HL := hid (own_grow HL.out hb)
          replace HF := hid (Fr.trans HF.out (fr_grow hb))
          clear hb
          clear hr hgl hgu hb4 hr5 hb5
          go_wp2_with (first | (refine opG_load1 (i := 0) (v := (.int .i64 (p : Int))) rfl rfl rfl H4.out rfl Try.underlying3 rfl ?_) | (refine opG_load1 (i := 1) (v := (.string (bs s))) rfl rfl rfl H4.out rfl Try.underlying9 rfl ?_) |  fail)
          go_wp2_with fail
          refine wp_region_floatG (fun W => W.heap[g]? = some (dkO kv' sv (.slice (some ad) L.length c) false) ∧ W.heap[g4]? = some (.cells #[.int .i64 (p : Int), .string (bs s)] 117 (0, 0))) [0,1,2,3,4,5] [6] [7,8,9] rfl (by kernel_rfl) rfl (by kernel_rfl) (by kernel_rfl) ?_
          intro wf1 hb
          replace HB := hid (Grow.trans HB.out hb)
          replace HG := hid (grow_block HG.out hb)
          replace HK := hid (HK.out.grow hb)
          replace HL := hid (own_grow HL.out hb)
          replace HF := hid (Fr.trans HF.out (fr_grow hb))
          replace H4 := hid (grow_block H4.out hb)
          clear hb
          refine ⟨⟨HG.out, H4.out⟩, ?_⟩
          (refine' pickT_val ?po1 ?pw1 ?pr1 ?pq1 ?ph1; (case' po1 => exact rfl); (case' pw1 => rfl); (case' pq1 => (exact fun _ _ _ h => h)); (case' pr1 => (intro w' hw'; go_simp; with_reducible rfl)); (case' ph1 => (try simp only [List.getElem_toArray, List.getElem_cons_zero, List.getElem_cons_succ, Act.put, List.setIfInBounds_toArray, List.set_cons_zero, List.set_cons_succ]))); (refine' pickT_val ?po2 ?pw2 ?pr2 ?pq2 ?ph2; (case' po2 => exact rfl); (case' pw2 => rfl); (case' pq2 => (exact fun _ _ _ h => h)); (case' pr2 => (intro w' hw'; go_simp; with_reducible rfl)); (case' ph2 => (try simp only [List.getElem_toArray, List.getElem_cons_zero, List.getElem_cons_succ, Act.put, List.setIfInBounds_toArray, List.set_cons_zero, List.set_cons_succ]))); (refine' pickT_val ?po3 ?pw3 ?pr3 ?pq3 ?ph3; (case' po3 => exact rfl); (case' pw3 => rfl); (case' pq3 => (exact fun _ _ _ h => h)); (case' pr3 => (intro w' hw'; go_simp; with_reducible rfl)); (case' ph3 => (try simp only [List.getElem_toArray, List.getElem_cons_zero, List.getElem_cons_succ, Act.put, List.setIfInBounds_toArray, List.set_cons_zero, List.set_cons_succ]))); (refine' pickT_val ?po4 ?pw4 ?pr4 ?pq4 ?ph4; (case' po4 => exact rfl); (case' pw4 => rfl); (case' pq4 => (exact fun _ _ _ h => h)); (case' pr4 => (intro w' hw'; go_simp; with_reducible rfl)); (case' ph4 => (try simp only [List.getElem_toArray, List.getElem_cons_zero, List.getElem_cons_succ, Act.put, List.setIfInBounds_toArray, List.set_cons_zero, List.set_cons_succ])))
          (refine' pickT_val (v := kv') ?po5 ?pw5 ?pr5 ?pq5 ?ph5; (case' po5 => exact rfl); (case' pw5 => rfl); (case' pq5 => (exact fun _ _ _ h => h)); (case' pr5 => (intro w' hw'; exact run_opLoadC (i := 0) rfl rfl hw'.1 rfl Try.underlying37 rfl)); (case' ph5 => (try simp only [List.getElem_toArray, List.getElem_cons_zero, List.getElem_cons_succ, Act.put, List.setIfInBounds_toArray, List.set_cons_zero, List.set_cons_succ])))
          (refine' pickT_val (v := (.agg #[.int .i64 (p : Int), .string (bs s)])) ?po6 ?pw6 ?pr6 ?pq6 ?ph6; (case' po6 => exact rfl); (case' pw6 => rfl); (case' pq6 => (exact fun _ _ _ h => h)); (case' pr6 => (intro w' hw'; exact run_opLoadB rfl rfl hw'.2 Try.underlying117 rfl rfl)); (case' ph6 => (try simp only [List.getElem_toArray, List.getElem_cons_zero, List.getElem_cons_succ, Act.put, List.setIfInBounds_toArray, List.set_cons_zero, List.set_cons_succ])))
          refine pickT_nil ?_
          refine seqT_does (V := (fun v w' => Buf 5 B w' v (putL KI p s) ∧ Fr (fun k => kv'.ownBlock = some k) _ w' ∧ Moved _ kv' v)) rfl rfl (does_enter (by go_simp) (dkPut kv' KI s p HNE.out HLS.out (Nat.le_trans HKL.out (by omega)) B _ HK.out (Nat.le_trans HBW.out HF.out.size)) (fun e w' ⟨v', h1, h2⟩ => ⟨v', h1, h2⟩)) ?_
          intro kv2 w6 ⟨hb6, hf6, hm6⟩
          have n1 := own_ne_blk HK.out HG.out u8_ne_dk
          have n3 := own_ne_blk HK.out H4.out u8_ne_wr
          have n4 := own_types_ne HK.out HL.out u8_ne_wr
          have HK6 := hid hb6
          have HM6 := hid (HM.out.trans hm6 HF.out.size)
          have HF6 := hid (HF.out.step hf6 (fun k hk => (HM.out k hk).imp .inr id))
          have H46 := hid (hf6.blk H4.out n3)
          have HG6 := hid (hf6.blk HG.out n1)
          have HL6 := hid (hf6.own HL.out (fun k hk hs => n4 k hs hk))
          clear hb6 hf6 hm6 n1 n3 n4
          refine ⟨⟨HG6.out, H46.out⟩, ?_⟩
          refine seqT_nil ?_
          show wpList _ _ _ (_ :: _ :: _ :: []) _ _
          go_wp2_with (first | (refine op_store1 (i := 0) rfl rfl rfl rfl rfl HG6.out (own_cells HK6.out) (own_oneCell HK6.out) infoBs (by simp [dkC]) ?_) | fail)
          intro w7 hg7 hgr7 _
          have n1 := own_ne_blk HK6.out HG6.out u8_ne_dk
          have n2 := own_ne_blk HL6.out HG6.out wr_ne_dk
          have hf7 : Fr (fun k => k = g) w6 w7 := fr_grown hgr7 (fun k hk => .inl (by injection hk with hk; exact hk.symm))
          have HG7 := hid (show w7.heap[g]? = some (dkO kv2 sv (.slice (some ad) L.length c) false) from hg7)
          have HK7 := hid (show Buf 5 B w7 kv2 cj.2 by rw [HCJ.out]; unfold put1; rw [if_neg HNE.out]; exact hf7.own HK6.out (fun k hk e => n1 (e ▸ hk)))
          have HL7 := hid (hf7.own HL6.out (fun k hk e => n2 (e ▸ hk)))
          have HF7 := hid (HF6.out.step hf7 (fun k hk => .inl (.inl hk)))
          have HCT := hid (show cj.1 = torn by rw [HCJ.out])
          clear hg7 hgr7 hf7 n1 n2 HK6 HG6 HL6 HF6 H46
          go_wp2_with fail
          go_roundg (L.length + 1 - (i + 1))
          case rel => exact ⟨i + 1, kv2, by omega, rfl, by go_num, by rw [HCJE.out, HCT.out], HG7, by rw [HCJE.out]; exact HK7, HL7, HF7, HM6⟩
          case measure => omega
      | false =>
        cases torn with
        | true =>
          have HCJ := hid (show cj = (true, KI) by rw [HCS.out, if_neg (by show ¬ bitU m i = true; unfold bitU; rw [hb1]; decide), if_pos rfl])
          clear HCS
          go_wp2_with (first | (refine wpList_load_agg rfl 117 _ rfl _ rfl [Value.int .i64 (p : Int), .string (bs s)] _ HCC.out Try.underlying117 rfl (by rw [infoWr2]; rfl) ?_) | (refine op_allocC (z := undef) (cs := #[.int .i64 0, .string ByteArray.empty]) rfl rfl (fun _ => by kernel_rfl) ?_) | fail)
          intro g4 w4 hgl hgu hb4 hr
          clear HCC
          go_wp2_with (first | (refine store_block 117 _ _ g4 0 [.int .i64 (p : Int), .string (bs s)] [.int .i64 0, .string ByteArray.empty] [.int .i64 (p : Int), .string (bs s)] 117 rfl rfl rfl rfl rfl hr (by rw [infoWr2]; rfl) (by simp) one2 rfl ?_) | fail)
          intro w5 hr5 _ hb5
          have hb := hb5 _ _ hb4 hgl
          have H4 := hid hr5
          have HGL := hid (Nat.le_trans HB.out.size hgl)
          replace HB := hid (Grow.trans HB.out hb)
          replace HG := hid (grow_block HG.out hb)
          replace HK := hid (HK.out.grow hb)
          replace HL := hid (own_grow HL.out hb)
          replace HF := hid (Fr.trans HF.out (fr_grow hb))
          clear hb
          clear hr hgl hgu hb4 hr5 hb5
          have HK7 := hid (show Buf 5 B w5 kv' cj.2 by rw [HCJ.out]; exact HK.out)
          have HCT := hid (show cj.1 = true by rw [HCJ.out])
          go_wp2_with fail
          go_roundg (L.length + 1 - (i + 1))
          case rel => exact ⟨i + 1, kv', by omega, rfl, by go_num, by rw [HCJE.out, HCT.out], HG, by rw [HCJE.out]; exact HK7, HL, HF, HM⟩
          case measure => omega
        | false =>
          have HCJ := hid (show cj = (true, put1 KI p (s.take (max count 0).toNat)) by rw [HCS.out, if_neg (by show ¬ bitU m i = true; unfold bitU; rw [hb1]; decide), if_neg (show ¬ (false, KI).1 = true from Bool.false_ne_true), HPS.out])
          clear HCS
          by_cases hs0 : s.take (max count 0).toNat = []
          · have HS0 := hid hs0
            have hem : (bs (s.take (max count 0).toNat)).toList.isEmpty = true := by rw [toList_bl, bl_bs, hs0]; rfl
            clear hs0
            go_wp2_with (first | (refine wpList_load_agg rfl 117 _ rfl _ rfl [Value.int .i64 (p : Int), .string (bs s)] _ HCC.out Try.underlying117 rfl (by rw [infoWr2]; rfl) ?_) | (refine op_allocC (z := undef) (cs := #[.int .i64 0, .string ByteArray.empty]) rfl rfl (fun _ => by kernel_rfl) ?_) | fail)
            intro g4 w4 hgl hgu hb4 hr
            clear HCC
            go_wp2_with (first | (refine store_block 117 _ _ g4 0 [.int .i64 (p : Int), .string (bs s)] [.int .i64 0, .string ByteArray.empty] [.int .i64 (p : Int), .string (bs s)] 117 rfl rfl rfl rfl rfl hr (by rw [infoWr2]; rfl) (by simp) one2 rfl ?_) | fail)
            intro w5 hr5 _ hb5
            have hb := hb5 _ _ hb4 hgl
            have H4 := hid hr5
            have HGL := hid (Nat.le_trans HB.out.size hgl)
            replace HB := hid (Grow.trans HB.out hb)
            replace HG := hid (grow_block HG.out hb)
            replace HK := hid (HK.out.grow hb)
            replace HL := hid (own_grow HL.out hb)
            replace HF := hid (Fr.trans HF.out (fr_grow hb))
            clear hb
            clear hr hgl hgu hb4 hr5 hb5
            go_wp2_with (first | (refine opG_load1 (i := 0) (v := (.int .i64 (p : Int))) rfl rfl rfl H4.out rfl Try.underlying3 rfl ?_) | (refine opG_load1 (i := 1) (v := (.string (bs s))) rfl rfl rfl H4.out rfl Try.underlying9 rfl ?_) | (refine op_store1 (i := 1) rfl rfl rfl rfl rfl H4.out rfl rfl infoStr (by simp) ?_) |  fail)
            intro w8 hr8 _ hbl8
            have hb8 := hbl8 _ _ HB.out HGL.out
            have H48 := hid (show w8.heap[g4]? = some (.cells #[.int .i64 (p : Int), .string (bs (s.take (max count 0).toNat))] 117 (0, 0)) by
              have e : (bs s).extract 0 (min (max count 0) (s.length : Int)).toNat = bs (s.take (max count 0).toNat) := by
                rw [bs_extract, List.drop_zero, Nat.sub_zero, show (min (max count 0) (s.length : Int)).toNat = min (max count 0).toNat s.length by omega, List.take_min_len]
              rw [← e]; exact hr8)
            clear HB HG HK HL HF H4
            replace HG := hid (grow_block HG0.out hb8)
            replace HK := hid (HK0.out.grow hb8)
            replace HL := hid (own_grow HL0.out hb8)
            replace HF := hid (HF0.out.trans (fr_grow hb8))
            have HB := hid hb8
            have H4 := H48
            clear hr8 hbl8 hb8 H48
            go_wp2_with (first | (refine opG_load1 (i := 0) (v := (.int .i64 (p : Int))) rfl rfl rfl H4.out rfl Try.underlying3 rfl ?_) | (refine opG_load1 (i := 1) (v := (.string (bs (s.take (max count 0).toNat)))) rfl rfl rfl H4.out rfl Try.underlying9 rfl ?_) |  fail)
            have HK7 := hid (show Buf 5 B w8 kv' cj.2 by rw [HCJ.out]; unfold put1; rw [if_pos HS0.out]; exact HK.out)
            have HCT := hid (show cj.1 = true by rw [HCJ.out])
            go_wp2_with fail
            go_roundg (L.length + 1 - (i + 1))
            case rel => exact ⟨i + 1, kv', by omega, rfl, by go_num, by rw [HCJE.out, HCT.out], HG, by rw [HCJE.out]; exact HK7, HL, HF, HM⟩
            case measure => omega
          · have HNE := hid hs0
            have HLS := hid (show p + (s.take (max count 0).toNat).length ≤ 10000000 by rw [List.length_take]; omega)
            have hem : (bs (s.take (max count 0).toNat)).toList.isEmpty = false := by
              rw [toList_bl, bl_bs]
              cases h : s.take (max count 0).toNat with
              | nil => exact absurd h hs0
              | cons => rfl
            clear hs0
            go_wp2_with (first | (refine wpList_load_agg rfl 117 _ rfl _ rfl [Value.int .i64 (p : Int), .string (bs s)] _ HCC.out Try.underlying117 rfl (by rw [infoWr2]; rfl) ?_) | (refine op_allocC (z := undef) (cs := #[.int .i64 0, .string ByteArray.empty]) rfl rfl (fun _ => by kernel_rfl) ?_) | fail)
            intro g4 w4 hgl hgu hb4 hr
            clear HCC
            go_wp2_with (first | (refine store_block 117 _ _ g4 0 [.int .i64 (p : Int), .string (bs s)] [.int .i64 0, .string ByteArray.empty] [.int .i64 (p : Int), .string (bs s)] 117 rfl rfl rfl rfl rfl hr (by rw [infoWr2]; rfl) (by simp) one2 rfl ?_) | fail)
            intro w5 hr5 _ hb5
            have hb := hb5 _ _ hb4 hgl
            have H4 := hid hr5
            have HGL := hid (Nat.le_trans HB.out.size hgl)
            replace HB := hid (Grow.trans HB.out hb)
            replace HG := hid (grow_block HG.out hb)
            replace HK := hid (HK.out.grow hb)
            replace HL := hid (own_grow HL.out hb)
            replace HF := hid (Fr.trans HF.out (fr_grow hb))
            clear hb
            clear hr hgl hgu hb4 hr5 hb5
            go_wp2_with (first | (refine opG_load1 (i := 0) (v := (.int .i64 (p : Int))) rfl rfl rfl H4.out rfl Try.underlying3 rfl ?_) | (refine opG_load1 (i := 1) (v := (.string (bs s))) rfl rfl rfl H4.out rfl Try.underlying9 rfl ?_) | (refine op_store1 (i := 1) rfl rfl rfl rfl rfl H4.out rfl rfl infoStr (by simp) ?_) |  fail)
            intro w8 hr8 _ hbl8
            have hb8 := hbl8 _ _ HB.out HGL.out
            have H48 := hid (show w8.heap[g4]? = some (.cells #[.int .i64 (p : Int), .string (bs (s.take (max count 0).toNat))] 117 (0, 0)) by
              have e : (bs s).extract 0 (min (max count 0) (s.length : Int)).toNat = bs (s.take (max count 0).toNat) := by
                rw [bs_extract, List.drop_zero, Nat.sub_zero, show (min (max count 0) (s.length : Int)).toNat = min (max count 0).toNat s.length by omega, List.take_min_len]
              rw [← e]; exact hr8)
            clear HB HG HK HL HF H4
            replace HG := hid (grow_block HG0.out hb8)
            replace HK := hid (HK0.out.grow hb8)
            replace HL := hid (own_grow HL0.out hb8)
            replace HF := hid (HF0.out.trans (fr_grow hb8))
            have HB := hid hb8
            have H4 := H48
            clear hr8 hbl8 hb8 H48
            go_wp2_with (first | (refine opG_load1 (i := 0) (v := (.int .i64 (p : Int))) rfl rfl rfl H4.out rfl Try.underlying3 rfl ?_) | (refine opG_load1 (i := 1) (v := (.string (bs (s.take (max count 0).toNat)))) rfl rfl rfl H4.out rfl Try.underlying9 rfl ?_) |  fail)
            go_wp2_with fail
            refine wp_region_floatG (fun W => W.heap[g]? = some (dkO kv' sv (.slice (some ad) L.length c) false) ∧ W.heap[g4]? = some (.cells #[.int .i64 (p : Int), .string (bs (s.take (max count 0).toNat))] 117 (0, 0))) [0,1,2,3,4,5] [6] [7,8,9] rfl (by kernel_rfl) rfl (by kernel_rfl) (by kernel_rfl) ?_
            intro wf2 hb
            replace HB := hid (Grow.trans HB.out hb)
            replace HG := hid (grow_block HG.out hb)
            replace HK := hid (HK.out.grow hb)
            replace HL := hid (own_grow HL.out hb)
            replace HF := hid (Fr.trans HF.out (fr_grow hb))
            replace H4 := hid (grow_block H4.out hb)
            clear hb
            refine ⟨⟨HG.out, H4.out⟩, ?_⟩
            (refine' pickT_val ?po7 ?pw7 ?pr7 ?pq7 ?ph7; (case' po7 => exact rfl); (case' pw7 => rfl); (case' pq7 => (exact fun _ _ _ h => h)); (case' pr7 => (intro w' hw'; go_simp; with_reducible rfl)); (case' ph7 => (try simp only [List.getElem_toArray, List.getElem_cons_zero, List.getElem_cons_succ, Act.put, List.setIfInBounds_toArray, List.set_cons_zero, List.set_cons_succ]))); (refine' pickT_val ?po8 ?pw8 ?pr8 ?pq8 ?ph8; (case' po8 => exact rfl); (case' pw8 => rfl); (case' pq8 => (exact fun _ _ _ h => h)); (case' pr8 => (intro w' hw'; go_simp; with_reducible rfl)); (case' ph8 => (try simp only [List.getElem_toArray, List.getElem_cons_zero, List.getElem_cons_succ, Act.put, List.setIfInBounds_toArray, List.set_cons_zero, List.set_cons_succ]))); (refine' pickT_val ?po9 ?pw9 ?pr9 ?pq9 ?ph9; (case' po9 => exact rfl); (case' pw9 => rfl); (case' pq9 => (exact fun _ _ _ h => h)); (case' pr9 => (intro w' hw'; go_simp; with_reducible rfl)); (case' ph9 => (try simp only [List.getElem_toArray, List.getElem_cons_zero, List.getElem_cons_succ, Act.put, List.setIfInBounds_toArray, List.set_cons_zero, List.set_cons_succ]))); (refine' pickT_val ?po10 ?pw10 ?pr10 ?pq10 ?ph10; (case' po10 => exact rfl); (case' pw10 => rfl); (case' pq10 => (exact fun _ _ _ h => h)); (case' pr10 => (intro w' hw'; go_simp; with_reducible rfl)); (case' ph10 => (try simp only [List.getElem_toArray, List.getElem_cons_zero, List.getElem_cons_succ, Act.put, List.setIfInBounds_toArray, List.set_cons_zero, List.set_cons_succ])))
            (refine' pickT_val (v := kv') ?po11 ?pw11 ?pr11 ?pq11 ?ph11; (case' po11 => exact rfl); (case' pw11 => rfl); (case' pq11 => (exact fun _ _ _ h => h)); (case' pr11 => (intro w' hw'; exact run_opLoadC (i := 0) rfl rfl hw'.1 rfl Try.underlying37 rfl)); (case' ph11 => (try simp only [List.getElem_toArray, List.getElem_cons_zero, List.getElem_cons_succ, Act.put, List.setIfInBounds_toArray, List.set_cons_zero, List.set_cons_succ])))
            (refine' pickT_val (v := (.agg #[.int .i64 (p : Int), .string (bs (s.take (max count 0).toNat))])) ?po12 ?pw12 ?pr12 ?pq12 ?ph12; (case' po12 => exact rfl); (case' pw12 => rfl); (case' pq12 => (exact fun _ _ _ h => h)); (case' pr12 => (intro w' hw'; exact run_opLoadB rfl rfl hw'.2 Try.underlying117 rfl rfl)); (case' ph12 => (try simp only [List.getElem_toArray, List.getElem_cons_zero, List.getElem_cons_succ, Act.put, List.setIfInBounds_toArray, List.set_cons_zero, List.set_cons_succ])))
            refine pickT_nil ?_
            refine seqT_does (V := (fun v w' => Buf 5 B w' v (putL KI p (s.take (max count 0).toNat)) ∧ Fr (fun k => kv'.ownBlock = some k) _ w' ∧ Moved _ kv' v)) rfl rfl (does_enter (by go_simp) (dkPut kv' KI (s.take (max count 0).toNat) p HNE.out HLS.out (Nat.le_trans HKL.out (by omega)) B _ HK.out (Nat.le_trans HBW.out HF.out.size)) (fun e w' ⟨v', h1, h2⟩ => ⟨v', h1, h2⟩)) ?_
            intro kv2 w6 ⟨hb6, hf6, hm6⟩
            have n1 := own_ne_blk HK.out HG.out u8_ne_dk
            have n3 := own_ne_blk HK.out H4.out u8_ne_wr
            have n4 := own_types_ne HK.out HL.out u8_ne_wr
            have HK6 := hid hb6
            have HM6 := hid (HM.out.trans hm6 HF.out.size)
            have HF6 := hid (HF.out.step hf6 (fun k hk => (HM.out k hk).imp .inr id))
            have H46 := hid (hf6.blk H4.out n3)
            have HG6 := hid (hf6.blk HG.out n1)
            have HL6 := hid (hf6.own HL.out (fun k hk hs => n4 k hs hk))
            clear hb6 hf6 hm6 n1 n3 n4
            refine ⟨⟨HG6.out, H46.out⟩, ?_⟩
            refine seqT_nil ?_
            show wpList _ _ _ (_ :: _ :: _ :: []) _ _
            go_wp2_with (first | (refine op_store1 (i := 0) rfl rfl rfl rfl rfl HG6.out (own_cells HK6.out) (own_oneCell HK6.out) infoBs (by simp [dkC]) ?_) | fail)
            intro w7 hg7 hgr7 _
            have n1 := own_ne_blk HK6.out HG6.out u8_ne_dk
            have n2 := own_ne_blk HL6.out HG6.out wr_ne_dk
            have hf7 : Fr (fun k => k = g) w6 w7 := fr_grown hgr7 (fun k hk => .inl (by injection hk with hk; exact hk.symm))
            have HG7 := hid (show w7.heap[g]? = some (dkO kv2 sv (.slice (some ad) L.length c) false) from hg7)
            have HK7 := hid (show Buf 5 B w7 kv2 cj.2 by rw [HCJ.out]; unfold put1; rw [if_neg HNE.out]; exact hf7.own HK6.out (fun k hk e => n1 (e ▸ hk)))
            have HL7 := hid (hf7.own HL6.out (fun k hk e => n2 (e ▸ hk)))
            have HF7 := hid (HF6.out.step hf7 (fun k hk => .inl (.inl hk)))
            have HCT := hid (show cj.1 = true by rw [HCJ.out])
            clear hg7 hgr7 hf7 n1 n2 HK6 HG6 HL6 HF6 H46
            go_wp2_with fail
            go_roundg (L.length + 1 - (i + 1))
            case rel => exact ⟨i + 1, kv2, by omega, rfl, by go_num, by rw [HCJE.out, HCT.out], HG7, by rw [HCJE.out]; exact HK7, HL7, HF7, HM6⟩
            case measure => omega
    · obtain rfl : i = L.length := by omega
      have HKL := hid (crashS_len (bitU m) (max count 0).toNat L K 4194304 HKM.out HLM.out L.length (Nat.le_refl _))
      have HX := hid (crashX_eq (bitU m) (max count 0).toNat L K)
      clear hlt
      generalize crashS (bitU m) (max count 0).toNat L K L.length = ci at *
      obtain ⟨torn, KI⟩ := ci
      have HBI := hid (Nat.le_trans HBW.out HF.out.size)
      go_wp2_with (first | (refine opG_load1 (i := 0) (v := kv') rfl rfl rfl HG.out rfl Try.underlying37 rfl ?_) |  fail)
      refine (bytesClone kv' KI B _ HK.out (Nat.le_trans HKL.out (by decide))).mono ?_
      rintro e w2 ⟨sv', rfl, ho, hb⟩
      have HG2 := hid (grow_block HG.out hb)
      have HK2 := hid (HK.out.grow hb)
      have HO2 := hid (show Buf 5 B w2 sv' KI from Go.Proofs.Ytkbapegohodcgaa.own_base0 ho HBI.out)
      have HF2 := hid (HF.out.trans (fr_grow hb))
      clear ho hb HG HK HL HF
      go_wp2_with (first | (refine op_build0 rfl rfl (fun w => by kernel_rfl) ?_) | (refine op_store1 (i := 1) rfl rfl rfl rfl rfl HG2.out (own_cells HO2.out) (own_oneCell HO2.out) infoBs (by simp [dkC]) ?_) | fail)
      intro w3 hg3 hgr3 _
      have HG3 := hid (show w3.heap[g]? = some (.cells #[kv', sv', .slice A L.length c, .bool false, .bool false, .int .i64 0, .int .u64 0, .int .i64 0] 114 (0, 0)) from hg3)
      have HR3 := hid hgr3
      clear hg3 hgr3
      go_wp2_with (first | (refine op_store1 (i := 2) rfl rfl rfl rfl rfl HG3.out rfl rfl infoWs (by simp) ?_) | fail)
      intro w4 hg4 hgr4 _
      have HG4 := hid (show w4.heap[g]? = some (.cells #[kv', sv', .slice none 0 0, .bool false, .bool false, .int .i64 0, .int .u64 0, .int .i64 0] 114 (0, 0)) from hg4)
      have HR4 := hid (grownBy_trans HR3.out hgr4)
      clear hg4 hgr4
      go_wp2_with (first | (refine op_store1 (i := 3) rfl rfl rfl rfl rfl HG4.out rfl rfl infoBool (by simp) ?_) | fail)
      intro w5 hg5 hgr5 _
      have HG5 := hid (show w5.heap[g]? = some (.cells [kv', sv', .slice none 0 0, .bool true, .bool false, .int .i64 0, .int .u64 0, .int .i64 0].toArray 114 (0, 0)) from hg5)
      have HR5 := hid (grownBy_trans HR4.out hgr5)
      clear hg5 hgr5
      go_wp2_with (first | (refine store_block 112 _ _ g 4 [.bool false, .int .i64 0, .int .u64 0, .int .i64 0] [kv', sv', .slice none 0 0, .bool true, .bool false, .int .i64 0, .int .u64 0, .int .i64 0] [kv', sv', .slice none 0 0, .bool true, .bool false, .int .i64 0, .int .u64 0, .int .i64 0] 114 rfl rfl rfl rfl rfl HG5.out (by rw [infoFuse]; rfl) (by simp) one4 rfl ?_) | fail)
      intro w6 hg6 hgr6 _
      have n1 := own_ne_blk HK2.out HG2.out u8_ne_dk
      have n2 := own_ne_blk HO2.out HG2.out u8_ne_dk
      have hf6 : Fr (fun k => k = g) w2 w6 := fr_grown (grownBy_trans HR5.out hgr6) (fun k hk => .inl (by injection hk with hk; exact hk.symm))
      have HG6 := hid (show w6.heap[g]? = some (dkO kv' sv' (.slice none 0 0) true) from hg6)
      have HK6 := hid (show Buf 5 B w6 kv' KI from hf6.own HK2.out (fun k hk e => n1 (e ▸ hk)))
      have HO6 := hid (show Buf 5 B w6 sv' KI from hf6.own HO2.out (fun k hk e => n2 (e ▸ hk)))
      have HF6 := hid (HF2.out.step hf6 (fun k hk => .inl (.inl hk)))
      clear hg6 hgr6 hf6 n1 n2 HG2 HG3 HG4 HG5 HR3 HR4 HR5 HK2 HO2 HF2
      go_wp2_with fail
      go_end0
      refine ⟨rfl, kv', sv', HG6.out, ?_, ?_, HF6.out⟩
      · rw [HX.out]; exact HK6.out
      · rw [HX.out]; exact HO6.out
end Go.Proofs.Ytkbapegohodcgaa
