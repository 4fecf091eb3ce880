/- disk: powered, Write. -/
import Derived.Test.YtkbapegohodcgaaQDis2
set_option linter.unusedSimpArgs false
set_option linter.unusedVariables false
namespace Go.Proofs.Ytkbapegohodcgaa
open Go.RowKit
open Go.Qk hiding rotr b4
set_option maxHeartbeats 1000000
set_option maxRecDepth 100000
theorem dkPowered (g a b c : Nat) (kv sv wv : Value) (k : Int) (V : World → Prop) (w : World) (hg : w.heap[g]? = some (dkO kv sv wv false))
    (hc : Calls Try.prog 77 #[ptrV a, ptrV b, ptrV c] w fun e w' => e = .returned (.int .i64 k) ∧ V w') :
    Calls Try.prog 76 #[ptrV g, .bool true, .func (.func 77) #[] #[ptrV a, ptrV b, ptrV c]] w fun e w' => e = .returned (.int .i64 k) ∧ V w' := by
  have HG := hid hg
  have HC := hid hc
  clear hg hc
  unfold ptrV at *
  go_enter Try.func76, Try.ntmps76
  have HB := hid (grow_refl w)
  go_wp2_with (first | (refine opG_load1 (i := 0) (v := kv) rfl rfl rfl HG.out rfl Try.underlying37 rfl ?_) | (refine opG_load1 (i := 1) (v := sv) rfl rfl rfl HG.out rfl Try.underlying37 rfl ?_) | (refine opG_load1 (i := 2) (v := wv) rfl rfl rfl HG.out rfl Try.underlying110 rfl ?_) | (refine opG_load1 (i := 3) (v := (.bool false)) rfl rfl rfl HG.out rfl Try.underlying4 rfl ?_) | (refine opG_load1 (i := 4) (v := (.bool false)) rfl rfl rfl HG.out rfl Try.underlying4 rfl ?_) | (refine opG_load1 (i := 5) (v := (.int .i64 0)) rfl rfl rfl HG.out rfl Try.underlying3 rfl ?_) | (refine opG_load1 (i := 6) (v := (.int .u64 0)) rfl rfl rfl HG.out rfl Try.underlying23 rfl ?_) | (refine opG_load1 (i := 7) (v := (.int .i64 0)) rfl rfl rfl HG.out rfl Try.underlying3 rfl ?_) |  fail)
  refine HC.out.mono ?_
  rintro e w1 ⟨rfl, hv⟩
  have HV := hid hv
  clear hv
  go_wp2_with fail
  go_ret
  exact ⟨rfl, HV.out⟩
theorem Fr.isDisk {D : Nat → Prop} {B : Nat} {w w1 : World} {g : Nat} {kv sv wv : Value} {K S : List UInt8} {L : List (Nat × List UInt8)} {down : Bool} (h : IsDisk B w g kv sv wv K S L down) (hf : Fr D w w1) (hg : ¬ D g) (hk : ∀ k, kv.ownBlock = some k → ¬ D k) (hs : ∀ k, sv.ownBlock = some k → ¬ D k) (hl : ∀ k, wv.ownBlock = some k → ¬ D k) : IsDisk B w1 g kv sv wv K S L down :=
  ⟨hf.blk h.blk hg, h.gB, hf.own h.k hk, hf.own h.s hs, hf.own h.l hl, h.tw⟩
theorem u8_ne_dk : 5 ≠ 114 := by decide
theorem wr_ne_dk : 117 ≠ 114 := by decide
theorem u8_ne_wr : 5 ≠ 117 := by decide
/-- The bytes that are seen are others. -/
theorem IsDisk.setSeen {B : Nat} {w w1 w2 : World} {g : Nat} {kv sv wv sv' : Value} {K S S' : List UInt8} {L : List (Nat × List UInt8)} {down : Bool} (h : IsDisk B w g kv sv wv K S L down) (hf : Fr (fun k => sv.ownBlock = some k) w w1) (hb : Buf 5 B w1 sv' S') (hm : Moved w sv sv')
    (hg : w2.heap[g]? = some (dkO kv sv' wv down)) (hgr : w1.grownBy w2 (some g)) : IsDisk B w2 g kv sv' wv K S' L down := by
  have n1 := own_ne_blk h.k h.blk u8_ne_dk
  have n2 := own_ne_blk h.s h.blk u8_ne_dk
  have n3 := own_ne_blk h.l h.blk wr_ne_dk
  have n4 := own_types_ne h.s h.l u8_ne_wr
  have f2 : Fr (fun k => k = g) w1 w2 := fr_grown hgr (fun k hk => .inl (by injection hk with hk; exact hk.symm))
  have b1 := hf.blk h.blk n2
  have n5 := own_ne_blk hb b1 u8_ne_dk
  refine ⟨hg, h.gB, f2.own (hf.own h.k (fun k hk => h.tw k hk)) (fun k hk e => n1 (e ▸ hk)), f2.own hb (fun k hk e => n5 (e ▸ hk)), f2.own (hf.own h.l (fun k hk hs => n4 k hs hk)) (fun k hk e => n3 (e ▸ hk)), fun k hk hs => ?_⟩
  rcases hm k hs with h' | h'
  · exact h.tw k hk h'
  · have := (own_lt h.k hk).2; omega
/-- What waits is others. -/
theorem IsDisk.setWaits {B : Nat} {w w1 w2 : World} {g : Nat} {kv sv wv wv' : Value} {K S : List UInt8} {L L' : List (Nat × List UInt8)} {down : Bool} (h : IsDisk B w g kv sv wv K S L down) (hf : Fr (fun k => wv.ownBlock = some k) w w1) (hb : w1.ownsRow B 117 2 wv' L'.length (wcells L'))
    (hg : w2.heap[g]? = some (dkO kv sv wv' down)) (hgr : w1.grownBy w2 (some g)) : IsDisk B w2 g kv sv wv' K S L' down := by
  have n1 := own_ne_blk h.k h.blk u8_ne_dk
  have n2 := own_ne_blk h.s h.blk u8_ne_dk
  have n3 := own_ne_blk h.l h.blk wr_ne_dk
  have n4 := own_types_ne h.s h.l u8_ne_wr
  have n6 := own_types_ne h.k h.l u8_ne_wr
  have f2 : Fr (fun k => k = g) w1 w2 := fr_grown hgr (fun k hk => .inl (by injection hk with hk; exact hk.symm))
  have b1 := hf.blk h.blk n3
  have n5 := own_ne_blk hb b1 wr_ne_dk
  exact ⟨hg, h.gB, f2.own (hf.own h.k (fun k hk => n6 k hk)) (fun k hk e => n1 (e ▸ hk)), f2.own (hf.own h.s (fun k hk hs => n4 k hk hs)) (fun k hk e => n2 (e ▸ hk)), f2.own hb (fun k hk e => n5 (e ▸ hk)), h.tw⟩
theorem infoWr2 : (Try.prog.info? 117).map (·.size) = some 2 := by kernel_rfl
theorem infoBs : (Try.prog.info? 37).map (·.size) = some 1 := by kernel_rfl
theorem infoWs : (Try.prog.info? 110).map (·.size) = some 1 := by kernel_rfl
def DkD (g : Nat) (sv wv : Value) : Nat → Prop := fun k => k = g ∨ sv.ownBlock = some k ∨ wv.ownBlock = some k
theorem one2 {x : Int} {s : ByteArray} : ∀ v ∈ [Value.int .i64 x, .string s], v.oneCell' = true := by
  intro v hv
  simp at hv
  rcases hv with rfl | rfl <;> rfl
theorem dkWrite1_nil (ga gs gd : Nat) (w : World) (p : Nat) (hp : p ≤ 4194304) (ha : w.heap[ga]? = some (.cells #[.int .i64 (p : Int)] 3 (0, 0))) (hs : w.heap[gs]? = some (.cells #[.string (bs [])] 9 (0, 0))) :
    Calls Try.prog 77 #[ptrV gs, ptrV ga, ptrV gd] w fun e w' => e = .returned (.int .i64 0) ∧ w = w' := by
  have HA := hid ha
  have HS := hid hs
  have hsz : (bs []).size = 0 := rfl
  have hem : (bs []).toList.isEmpty = true := by rw [toList_bl, bl_bs]; rfl
  clear ha hs
  unfold ptrV
  go_enter Try.func77, Try.ntmps77
  have HB := hid (grow_refl w)
  go_wp2_with (first | (refine opG_load1 (i := 0) (v := (.int .i64 (p : Int))) rfl rfl rfl HA.out rfl Try.underlying3 rfl ?_) | (refine opG_load1 (i := 0) (v := (.string (bs []))) rfl rfl rfl HS.out rfl Try.underlying9 rfl ?_) |  fail)
  go_ret
  exact ⟨rfl, rfl⟩
theorem dkWrite1 (ga gs gd g B : Nat) (kv sv wv : Value) (K S l : List UInt8) (L : List (Nat × List UInt8)) (w : World) (p : Nat) (hl : l ≠ []) (hp : p + l.length ≤ 4194304) (hS : S.length ≤ 10000000) (hL : L.length ≤ 1000000) (ha : w.heap[ga]? = some (.cells #[.int .i64 (p : Int)] 3 (0, 0))) (hs : w.heap[gs]? = some (.cells #[.string (bs l)] 9 (0, 0)))
    (hd : w.heap[gd]? = some (.cells #[ptrV g] 25 (0, 0))) (hk : IsDisk B w g kv sv wv K S L false) (hB : B ≤ w.heap.size) :
    Calls Try.prog 77 #[ptrV gs, ptrV ga, ptrV gd] w fun e w' => e = .returned (.int .i64 0) ∧ ∃ sv' wv', IsDisk B w' g kv sv' wv' K (putL S p l) (L ++ [(p, l)]) false ∧ Fr (DkD g sv wv) w w' ∧ Moved w sv sv' ∧ Moved w wv wv' := by
  have HA := hid ha
  have HS := hid hs
  have HD := hid hd
  have HK := hid hk
  have HBW := hid hB
  have HSL := hid hS
  have HLL := hid hL
  have HNE := hid hl
  have HWV := hid (fun k hk' => (own_lt hk.l hk').2 : ∀ k, wv.ownBlock = some k → k < w.heap.size)
  have hsz := bs_size l
  have hem : (bs l).toList.isEmpty = false := by rw [toList_bl, bl_bs]; cases l with
    | nil => exact absurd rfl hl
    | cons => rfl
  clear ha hs hd hk hB hS hL hl
  unfold ptrV at *
  go_enter Try.func77, Try.ntmps77
  have HB := hid (grow_refl w)
  go_wp2_with (first | (refine opG_load1 (i := 0) (v := (.int .i64 (p : Int))) rfl rfl rfl HA.out rfl Try.underlying3 rfl ?_) | (refine opG_load1 (i := 0) (v := (.string (bs l))) rfl rfl rfl HS.out rfl Try.underlying9 rfl ?_) | (refine op_allocstoreB (z := [.int .i64 0, .string ByteArray.empty]) (cs := [.int .i64 (p : Int), .string (bs l)]) rfl rfl rfl rfl rfl rfl (fun _ => by kernel_rfl) (fun _ => rfl) (fun _ => rfl) rfl rfl one2 ?_) |  fail)
  intro g4 w4 hgl hgu hb hr
  have H4 := hid hr
  have HG4 := hid hgl
  replace HB := hid (Grow.trans HB.out hb)
  replace HA := hid (grow_block HA.out hb)
  replace HS := hid (grow_block HS.out hb)
  replace HD := hid (grow_block HD.out hb)
  replace HK := hid (HK.out.grow hb)
  clear hb
  clear hr hgl hgu
  have HF := hid (fr_grow (D := DkD g sv wv) HB.out)
  have HBW4 := hid (Nat.le_trans HBW.out HB.out.size)
  go_wp2_with fail
  refine wp_region_floatG (fun W => W.heap[gd]? = some (.cells #[.pointer (some ⟨g, 0, none⟩)] 25 (0, 0)) ∧ W.heap[g]? = some (dkO kv sv wv false) ∧ W.heap[g4]? = some (.cells #[.int .i64 (p : Int), .string (bs l)] 117 (0, 0))) [0,1,2,3,4,5] [6] [7,8,9] rfl (by kernel_rfl) rfl (by kernel_rfl) (by kernel_rfl) ?_
  intro wf1 hb
  replace HB := hid (Grow.trans HB.out hb)
  replace HA := hid (grow_block HA.out hb)
  replace HS := hid (grow_block HS.out hb)
  replace HD := hid (grow_block HD.out hb)
  replace HK := hid (HK.out.grow hb)
  replace HBW4 := hid (Nat.le_trans HBW4.out (hb).size)
  replace H4 := hid (grow_block H4.out hb)
  replace HF := hid (Fr.trans HF.out (fr_grow hb))
  clear hb
  refine ⟨⟨HD.out, HK.out.blk, H4.out⟩, ?_⟩
  (refine' pickT_val (v := (.pointer (some ⟨g, 0, none⟩))) ?po1 ?pw1 ?pr1 ?pq1 ?ph1; (case' po1 => exact rfl); (case' pw1 => rfl); (case' pq1 => (exact fun _ _ _ h => h)); (case' pr1 => (intro w' hw'; exact run_opLoadC rfl rfl hw'.1 rfl Try.underlying25 rfl)); (case' ph1 => (try simp only [List.getElem_toArray, List.getElem_cons_zero, List.getElem_cons_succ, Act.put, List.setIfInBounds_toArray, List.set_cons_zero, List.set_cons_succ])))
  (refine' pickT_val (v := (.pointer (some ⟨g, 0, none⟩))) ?po2 ?pw2 ?pr2 ?pq2 ?ph2; (case' po2 => exact rfl); (case' pw2 => rfl); (case' pq2 => (exact fun _ _ _ h => h)); (case' pr2 => (intro w' hw'; exact run_opLoadC rfl rfl hw'.1 rfl Try.underlying25 rfl)); (case' ph2 => (try simp only [List.getElem_toArray, List.getElem_cons_zero, List.getElem_cons_succ, Act.put, List.setIfInBounds_toArray, List.set_cons_zero, List.set_cons_succ])))
  (refine' pickT_val ?po3 ?pw3 ?pr3 ?pq3 ?ph3; (case' po3 => exact rfl); (case' pw3 => rfl); (case' pq3 => (exact fun _ _ _ h => h)); (case' pr3 => (intro w' hw'; go_simp; with_reducible rfl)); (case' ph3 => (try simp only [List.getElem_toArray, List.getElem_cons_zero, List.getElem_cons_succ, Act.put, List.setIfInBounds_toArray, List.set_cons_zero, List.set_cons_succ]))); (refine' pickT_val ?po4 ?pw4 ?pr4 ?pq4 ?ph4; (case' po4 => exact rfl); (case' pw4 => rfl); (case' pq4 => (exact fun _ _ _ h => h)); (case' pr4 => (intro w' hw'; go_simp; with_reducible rfl)); (case' ph4 => (try simp only [List.getElem_toArray, List.getElem_cons_zero, List.getElem_cons_succ, Act.put, List.setIfInBounds_toArray, List.set_cons_zero, List.set_cons_succ])))
  (refine' pickT_val (v := sv) ?po5 ?pw5 ?pr5 ?pq5 ?ph5; (case' po5 => exact rfl); (case' pw5 => rfl); (case' pq5 => (exact fun _ _ _ h => h)); (case' pr5 => (intro w' hw'; exact run_opLoadC (i := 1) rfl rfl hw'.2.1 rfl Try.underlying37 rfl)); (case' ph5 => (try simp only [List.getElem_toArray, List.getElem_cons_zero, List.getElem_cons_succ, Act.put, List.setIfInBounds_toArray, List.set_cons_zero, List.set_cons_succ])))
  (refine' pickT_val (v := (.agg #[.int .i64 (p : Int), .string (bs l)])) ?po6 ?pw6 ?pr6 ?pq6 ?ph6; (case' po6 => exact rfl); (case' pw6 => rfl); (case' pq6 => (exact fun _ _ _ h => h)); (case' pr6 => (intro w' hw'; exact run_opLoadB rfl rfl hw'.2.2 Try.underlying117 rfl rfl)); (case' ph6 => (try simp only [List.getElem_toArray, List.getElem_cons_zero, List.getElem_cons_succ, Act.put, List.setIfInBounds_toArray, List.set_cons_zero, List.set_cons_succ])))
  refine pickT_nil ?_
  refine seqT_does (V := (fun v w' => Buf 5 B w' v (putL S p l) ∧ Fr (fun k => sv.ownBlock = some k) _ w' ∧ Moved _ sv v)) rfl rfl (does_enter (by go_simp) (dkPut sv S l p HNE.out (by omega) HSL.out B _ HK.out.s HBW4.out) (fun e w' ⟨v', h1, h2⟩ => ⟨v', h1, h2⟩)) ?_
  intro sv' w6 ⟨hb6, hf6, hm6⟩
  have n1 := own_ne_blk HK.out.s HK.out.blk u8_ne_dk
  have n2 := own_ne_blk HK.out.s HD.out (by decide)
  have n3 := own_ne_blk HK.out.s H4.out (by decide)
  have HS6 := hid hb6
  have HF6 := hid hf6
  have HM6 := hid hm6
  have HD6 := hid (hf6.blk HD.out n2)
  have H46 := hid (hf6.blk H4.out n3)
  have HG6 := hid (hf6.blk HK.out.blk n1)
  clear hb6 hf6 hm6 n1 n2 n3
  refine ⟨⟨HD6.out, HG6.out, H46.out⟩, ?_⟩
  refine seqT_nil ?_
  show wpList _ _ _ (_ :: _ :: _ :: []) _ _
  go_wp2_with (first | (refine op_store1 rfl rfl rfl rfl rfl HG6.out (own_cells HS6.out) (own_oneCell HS6.out) infoBs (by simp [dkC]) ?_) | fail)
  intro w7 hg7 hgr7 hbl7
  have HK7 := hid (HK.out.setSeen HF6.out HS6.out HM6.out hg7 hgr7)
  have HD7 := hid (blk_other' hgr7 HD6.out (fun e => by injection e with e; exact blk_ne HD6.out HG6.out (by decide) e.symm))
  have H47 := hid (blk_other' hgr7 H46.out (fun e => by injection e with e; exact blk_ne H46.out HG6.out (by decide) e.symm))
  have HF7 := hid ((HF.out.step HF6.out (fun k hk => .inl (.inr (.inl hk)))).step (fr_grown (D := fun k => k = g) hgr7 (fun k hk => .inl (by injection hk with hk; exact hk.symm))) (fun k hk => .inl (.inl hk)))
  have HM7 := hid (HM6.out.mono (w := w) HB.out.size)
  have HBW7 := hid (Nat.le_trans HBW.out HF7.out.size)
  clear hg7 hgr7 hbl7 HD6 H46 HG6 HS6 HF6 HM6 HK HD H4 HBW4 HF HB HA HS
  go_wp2_with fail
  refine wp_region_floatG (fun W => W.heap[gd]? = some (.cells #[.pointer (some ⟨g, 0, none⟩)] 25 (0, 0)) ∧ W.heap[g]? = some (dkO kv sv' wv false) ∧ W.heap[g4]? = some (.cells #[.int .i64 (p : Int), .string (bs l)] 117 (0, 0))) [0,1,2,3,4,5] [6,7] [8,9,10] rfl (by kernel_rfl) rfl (by kernel_rfl) (by kernel_rfl) ?_
  intro wf2 hb
  replace HD7 := hid (grow_block HD7.out hb)
  replace H47 := hid (grow_block H47.out hb)
  replace HF7 := hid (Fr.trans HF7.out (fr_grow hb))
  replace HBW7 := hid (Nat.le_trans HBW7.out (hb).size)
  replace HK7 := hid (HK7.out.grow hb)
  clear hb
  refine ⟨⟨HD7.out, HK7.out.blk, H47.out⟩, ?_⟩
  (refine' pickT_val (v := (.pointer (some ⟨g, 0, none⟩))) ?po7 ?pw7 ?pr7 ?pq7 ?ph7; (case' po7 => exact rfl); (case' pw7 => rfl); (case' pq7 => (exact fun _ _ _ h => h)); (case' pr7 => (intro w' hw'; exact run_opLoadC rfl rfl hw'.1 rfl Try.underlying25 rfl)); (case' ph7 => (try simp only [List.getElem_toArray, List.getElem_cons_zero, List.getElem_cons_succ, Act.put, List.setIfInBounds_toArray, List.set_cons_zero, List.set_cons_succ])))
  (refine' pickT_val (v := (.pointer (some ⟨g, 0, none⟩))) ?po8 ?pw8 ?pr8 ?pq8 ?ph8; (case' po8 => exact rfl); (case' pw8 => rfl); (case' pq8 => (exact fun _ _ _ h => h)); (case' pr8 => (intro w' hw'; exact run_opLoadC rfl rfl hw'.1 rfl Try.underlying25 rfl)); (case' ph8 => (try simp only [List.getElem_toArray, List.getElem_cons_zero, List.getElem_cons_succ, Act.put, List.setIfInBounds_toArray, List.set_cons_zero, List.set_cons_succ])))
  (refine' pickT_val ?po9 ?pw9 ?pr9 ?pq9 ?ph9; (case' po9 => exact rfl); (case' pw9 => rfl); (case' pq9 => (exact fun _ _ _ h => h)); (case' pr9 => (intro w' hw'; go_simp; with_reducible rfl)); (case' ph9 => (try simp only [List.getElem_toArray, List.getElem_cons_zero, List.getElem_cons_succ, Act.put, List.setIfInBounds_toArray, List.set_cons_zero, List.set_cons_succ]))); (refine' pickT_val ?po10 ?pw10 ?pr10 ?pq10 ?ph10; (case' po10 => exact rfl); (case' pw10 => rfl); (case' pq10 => (exact fun _ _ _ h => h)); (case' pr10 => (intro w' hw'; go_simp; with_reducible rfl)); (case' ph10 => (try simp only [List.getElem_toArray, List.getElem_cons_zero, List.getElem_cons_succ, Act.put, List.setIfInBounds_toArray, List.set_cons_zero, List.set_cons_succ])))
  (refine' pickT_val (v := wv) ?po11 ?pw11 ?pr11 ?pq11 ?ph11; (case' po11 => exact rfl); (case' pw11 => rfl); (case' pq11 => (exact fun _ _ _ h => h)); (case' pr11 => (intro w' hw'; exact run_opLoadC (i := 2) rfl rfl hw'.2.1 rfl Try.underlying110 rfl)); (case' ph11 => (try simp only [List.getElem_toArray, List.getElem_cons_zero, List.getElem_cons_succ, Act.put, List.setIfInBounds_toArray, List.set_cons_zero, List.set_cons_succ])))
  (refine' pickT_val (v := (.agg #[.int .i64 (p : Int), .string (bs l)])) ?po12 ?pw12 ?pr12 ?pq12 ?ph12; (case' po12 => exact rfl); (case' pw12 => rfl); (case' pq12 => (exact fun _ _ _ h => h)); (case' pr12 => (intro w' hw'; exact run_opLoadB rfl rfl hw'.2.2 Try.underlying117 rfl rfl)); (case' ph12 => (try simp only [List.getElem_toArray, List.getElem_cons_zero, List.getElem_cons_succ, Act.put, List.setIfInBounds_toArray, List.set_cons_zero, List.set_cons_succ])))
  refine pickT_nil ?_
  refine seqT_does rfl rfl (does_build1 (cs := [.int .i64 (p : Int), .string (bs l)]) rfl rfl rfl rfl Try.underlying110 infoWr rfl (by simp) (by simp)) ?_
  rintro _ w8 ⟨rfl, rfl⟩
  have hb8 := grow_alloc wf2 (.cells [Value.int .i64 (p : Int), .string (bs l)].toArray 117)
  have hc8 : ∀ j u, [Value.int .i64 (p : Int), .string (bs l)][j]? = some u → (wf2.alloc (.cells [Value.int .i64 (p : Int), .string (bs l)].toArray 117)).cell? ((⟨wf2.heap.size, 0, none⟩ : Addr).add j) = some u := fun j u hj => cells_new _ _ _ j u hj
  generalize hw8 : wf2.alloc (.cells [Value.int .i64 (p : Int), .string (bs l)].toArray 117) = w8 at *
  replace HD7 := hid (grow_block HD7.out hb8)
  replace H47 := hid (grow_block H47.out hb8)
  replace HF7 := hid (Fr.trans HF7.out (fr_grow hb8))
  replace HBW7 := hid (Nat.le_trans HBW7.out (hb8).size)
  replace HK7 := hid (HK7.out.grow hb8)
  clear hb8
  clear hw8
  generalize wf2.heap.size = g8 at hc8 ⊢
  refine ⟨⟨HD7.out, HK7.out.blk, H47.out⟩, ?_⟩
  refine seqT_does rfl rfl (does_appOwn (news := [.int .i64 (p : Int), .string (bs l)]) rfl Try.underlying110 infoWr rfl (by decide) rfl rfl rfl hc8 one2 HK7.out.l HBW7.out (by have := HLL.out; omega) (by have := HLL.out; omega)) ?_
  rintro wv' w9 ⟨ho9, hg9, hm9⟩
  have n1 := own_ne_blk HK7.out.l HK7.out.blk wr_ne_dk
  have n2 := own_ne_blk HK7.out.l HD7.out (by decide)
  have HN3 := hid (own_types_ne HK7.out.l HK7.out.s (Ne.symm u8_ne_wr))
  have HO9 := hid (show w9.ownsRow B 117 2 wv' (L ++ [(p, l)]).length (wcells (L ++ [(p, l)])) by rw [wcells_snoc]; simpa using ho9)
  have HG9 := hid (blk_other' hg9 HK7.out.blk n1)
  have HD9 := hid (blk_other' hg9 HD7.out n2)
  have H49 := hid (fr_grown (D := fun k => wv.ownBlock = some k) hg9 (fun k hk => .inl hk))
  have HM9 := hid (hm9.mono HF7.out.size)
  have HW9 := hid (blk_other' hg9 H47.out (fun e => by have := HWV.out _ e; have := HG4.out; omega))
  clear ho9 hg9 hm9 n1 n2 hc8
  refine ⟨⟨HD9.out, HG9.out, HW9.out⟩, ?_⟩
  refine seqT_nil ?_
  show wpList _ _ _ (_ :: _ :: _ :: []) _ _
  go_wp2_with (first | (refine op_store1 rfl rfl rfl rfl rfl HG9.out (own_cells HO9.out) (own_oneCell HO9.out) infoWs (by simp [dkC]) ?_) | fail)
  intro w10 hg10 hgr10 hbl10
  have HK10 := hid (HK7.out.setWaits H49.out HO9.out hg10 hgr10)
  have HD10 := hid (blk_other' hgr10 HD9.out (fun e => by injection e with e; exact blk_ne HD9.out HG9.out (by decide) e.symm))
  have HF10 := hid ((HF7.out.step H49.out (fun k hk => .inl (.inr (.inr hk)))).step (fr_grown (D := fun k => k = g) hgr10 (fun k hk => .inl (by injection hk with hk; exact hk.symm))) (fun k hk => .inl (.inl hk)))
  clear hg10 hgr10 hbl10 HK7 HG9 HD9 H49 HO9 HF7 HD7 H47 HBW7
  go_wp2_with (first | (refine opG_load1 (i := 0) (v := (.pointer (some ⟨g, 0, none⟩))) rfl rfl rfl HD10.out rfl Try.underlying25 rfl ?_) |  fail)
  refine (dkBurn g kv sv' wv' false _ HK10.out.blk).mono ?_
  rintro e w11 ⟨rfl, rfl⟩
  go_wp2_with fail
  go_ret
  exact ⟨rfl, sv', wv', HK10.out, HF10.out, HM7.out, HM9.out⟩
end Go.Proofs.Ytkbapegohodcgaa
