/- disk: Write, sync, Sync. -/
import Derived.Test.YtkbapegohodcgaaQDis3
set_option linter.unusedSimpArgs false
set_option linter.unusedVariables false
namespace Go.Proofs.Ytkbapegohodcgaa
open Go.RowKit
open Go.Qk hiding rotr b4
set_option maxHeartbeats 1000000
set_option maxRecDepth 100000
theorem dkWrite (g B : Nat) (kv sv wv : Value) (K S l : List UInt8) (L : List (Nat × List UInt8)) (w : World) (p : Nat) (hl : l ≠ []) (hpS : p ≤ S.length) (hp : p + l.length ≤ 4194304) (hS : S.length ≤ 10000000) (hL : L.length ≤ 1000000)
    (hk : IsDisk B w g kv sv wv K S L false) (hB : B ≤ w.heap.size) :
    Calls Try.prog 15 #[ptrV g, .int .i64 (p : Int), .string (bs l)] w fun e w' => e = .returned (.int .i64 0) ∧ ∃ sv' wv', IsDisk B w' g kv sv' wv' K (putL S p l) (L ++ [(p, l)]) false ∧ Fr (DkD g sv wv) w w' ∧ Moved w sv sv' ∧ Moved w wv wv' := by
  obtain ⟨A, c, hsv, _⟩ := own_sl hk.s
  subst hsv
  have HK := hid hk
  have HBW := hid hB
  have HNE := hid hl
  have hpS' : (p : Int) ≤ (S.length : Int) := by omega
  have p0 : (0 : Int) ≤ (p : Int) := by omega
  have HPW := hid (fun ga gs gd w4 ha hs hd (hk4 : IsDisk B w4 g kv (.slice A S.length c) wv K S L false) (hB4 : B ≤ w4.heap.size) => dkWrite1 ga gs gd g B kv (.slice A S.length c) wv K S l L w4 p hl hp hS hL ha hs hd hk4 hB4)
  clear hk hB hl hpS
  unfold ptrV at *
  go_enter Try.func15, Try.ntmps15
  have HB := hid (grow_refl w)
  apply wp_seq_k; intro _ _; apply wp_region_lit
  refine op_boxC (cs := #[.pointer (some ⟨g, 0, none⟩)]) rfl rfl rfl rfl ?_
  intro gd w1 hgl hgu hb hr
  have BDL := hid (Nat.le_trans HB.out.size hgl)
  replace HB := hid (Grow.trans HB.out hb)
  replace HK := hid (HK.out.grow hb)
  replace HBW := hid (Nat.le_trans HBW.out (hb).size)
  have BD := hid hr; have BDU := hid hgu
  clear hr hgl hgu hb
  try simp only [Act.put, List.setIfInBounds_toArray, List.set_cons_zero, List.set_cons_succ]
  refine op_boxC (cs := #[.int .i64 (p : Int)]) rfl rfl rfl rfl ?_
  intro ga w2 hgl hgu hb hr
  have BAL := hid (Nat.le_trans HB.out.size hgl)
  replace HB := hid (Grow.trans HB.out hb)
  replace HK := hid (HK.out.grow hb)
  replace HBW := hid (Nat.le_trans HBW.out (hb).size)
  replace BD := hid (grow_block BD.out hb)
  have BA := hid hr; have BAU := hid hgu
  clear hr hgl hgu hb
  try simp only [Act.put, List.setIfInBounds_toArray, List.set_cons_zero, List.set_cons_succ]
  refine op_boxC (cs := #[.string (bs l)]) rfl rfl rfl rfl ?_
  intro gs w3 hgl hgu hb hr
  have BSL := hid (Nat.le_trans HB.out.size hgl)
  replace HB := hid (Grow.trans HB.out hb)
  replace HK := hid (HK.out.grow hb)
  replace HBW := hid (Nat.le_trans HBW.out (hb).size)
  replace BD := hid (grow_block BD.out hb)
  replace BA := hid (grow_block BA.out hb)
  have BS := hid hr; have BSU := hid hgu
  clear hr hgl hgu hb
  try simp only [Act.put, List.setIfInBounds_toArray, List.set_cons_zero, List.set_cons_succ]
  go_wp2_with fail
  (refine' wp_region_head 13 2 [_, _, _, _, _, _, _, _, _, _, _, _, _] rfl (by kernel_rfl) (by kernel_rfl) ?hreg1; case' hreg1 => simp only [List.take_succ_cons, List.take_zero, List.zip_cons_cons, List.zip_nil_right, List.drop_succ_cons, List.drop_zero, List.drop_nil])
  (refine' head_load1 (i := 0) (v := (.pointer (some ⟨g, 0, none⟩))) rfl ?_ rfl rfl BD.out rfl Try.underlying25 rfl ?_; (first | exact fun _ _ _ => trivial | (intro t ht w; cases ht; simp [upE])); try simp only [Act.put, List.setIfInBounds_toArray, List.set_cons_zero, List.set_cons_succ])
  (refine' head_load1 (i := 0) (v := (.int .i64 (p : Int))) rfl ?_ rfl rfl BA.out rfl Try.underlying3 rfl ?_; (first | exact fun _ _ _ => trivial | (intro t ht w; cases ht; simp [upE])); try simp only [Act.put, List.setIfInBounds_toArray, List.set_cons_zero, List.set_cons_succ])
  (refine' head_val ?dw2 ?de2 ?dr2 ?dh2; (case' dw2 => rfl); (case' de2 => (first | exact fun _ _ _ => trivial | (intro t ht w; cases ht; simp [upE]))); (case' dr2 => (intro w' hw' _; go_simp; with_reducible rfl)); (case' dh2 => (try simp only [Act.put, List.setIfInBounds_toArray, List.set_cons_zero, List.set_cons_succ]))); (refine' head_val ?dw3 ?de3 ?dr3 ?dh3; (case' dw3 => rfl); (case' de3 => (first | exact fun _ _ _ => trivial | (intro t ht w; cases ht; simp [upE]))); (case' dr3 => (intro w' hw' _; go_simp; with_reducible rfl)); (case' dh3 => (try simp only [Act.put, List.setIfInBounds_toArray, List.set_cons_zero, List.set_cons_succ])))
  (refine' head_load1 (i := 0) (v := (.int .i64 (p : Int))) rfl ?_ rfl rfl BA.out rfl Try.underlying3 rfl ?_; (first | exact fun _ _ _ => trivial | (intro t ht w; cases ht; simp [upE])); try simp only [Act.put, List.setIfInBounds_toArray, List.set_cons_zero, List.set_cons_succ])
  (refine' head_load1 (i := 0) (v := (.pointer (some ⟨g, 0, none⟩))) rfl ?_ rfl rfl BD.out rfl Try.underlying25 rfl ?_; (first | exact fun _ _ _ => trivial | (intro t ht w; cases ht; simp [upE])); try simp only [Act.put, List.setIfInBounds_toArray, List.set_cons_zero, List.set_cons_succ])
  (refine' head_val ?dw4 ?de4 ?dr4 ?dh4; (case' dw4 => rfl); (case' de4 => (first | exact fun _ _ _ => trivial | (intro t ht w; cases ht; simp [upE]))); (case' dr4 => (intro w' hw' _; go_simp; with_reducible rfl)); (case' dh4 => (try simp only [Act.put, List.setIfInBounds_toArray, List.set_cons_zero, List.set_cons_succ]))); (refine' head_val ?dw5 ?de5 ?dr5 ?dh5; (case' dw5 => rfl); (case' de5 => (first | exact fun _ _ _ => trivial | (intro t ht w; cases ht; simp [upE]))); (case' dr5 => (intro w' hw' _; go_simp; with_reducible rfl)); (case' dh5 => (try simp only [Act.put, List.setIfInBounds_toArray, List.set_cons_zero, List.set_cons_succ])))
  (refine' head_load1 (i := 1) (v := .slice A S.length c) rfl ?_ rfl rfl HK.out.blk rfl Try.underlying37 rfl ?_; (first | exact fun _ _ _ => trivial | (intro t ht w; cases ht; simp [upE])); try simp only [Act.put, List.setIfInBounds_toArray, List.set_cons_zero, List.set_cons_succ])
  (refine' head_val ?dw6 ?de6 ?dr6 ?dh6; (case' dw6 => rfl); (case' de6 => (first | exact fun _ _ _ => trivial | (intro t ht w; cases ht; simp [upE]))); (case' dr6 => (intro w' hw' _; go_simp; with_reducible rfl)); (case' dh6 => (try simp only [Act.put, List.setIfInBounds_toArray, List.set_cons_zero, List.set_cons_succ]))); (refine' head_val ?dw7 ?de7 ?dr7 ?dh7; (case' dw7 => rfl); (case' de7 => (first | exact fun _ _ _ => trivial | (intro t ht w; cases ht; simp [upE]))); (case' dr7 => (intro w' hw' _; go_simp; with_reducible rfl)); (case' dh7 => (try simp only [Act.put, List.setIfInBounds_toArray, List.set_cons_zero, List.set_cons_succ]))); (refine' head_val ?dw8 ?de8 ?dr8 ?dh8; (case' dw8 => rfl); (case' de8 => (first | exact fun _ _ _ => trivial | (intro t ht w; cases ht; simp [upE]))); (case' dr8 => (intro w' hw' _; go_simp; with_reducible rfl)); (case' dh8 => (try simp only [Act.put, List.setIfInBounds_toArray, List.set_cons_zero, List.set_cons_succ]))); (refine' head_val ?dw9 ?de9 ?dr9 ?dh9; (case' dw9 => rfl); (case' de9 => (first | exact fun _ _ _ => trivial | (intro t ht w; cases ht; simp [upE]))); (case' dr9 => (intro w' hw' _; go_simp; with_reducible rfl)); (case' dh9 => (try simp only [Act.put, List.setIfInBounds_toArray, List.set_cons_zero, List.set_cons_succ])))
  refine head_nil ?_
  intro w4 hb _
  replace HB := hid (Grow.trans HB.out hb)
  replace HK := hid (HK.out.grow hb)
  replace HBW := hid (Nat.le_trans HBW.out (hb).size)
  replace BD := hid (grow_block BD.out hb)
  replace BA := hid (grow_block BA.out hb)
  replace BS := hid (grow_block BS.out hb)
  clear hb
  go_wp2_with fail
  refine (dkPowered g gs ga gd kv _ wv 0 _ w4 HK.out.blk (HPW.out ga gs gd w4 BA.out BS.out BD.out HK.out HBW.out)).mono ?_
  rintro e w5 ⟨rfl, sv', wv', hk5, hf5, hm5, hn5⟩
  have HK5 := hid hk5
  have HF5 := hid ((fr_grow HB.out).trans hf5)
  have HM5 := hid (hm5.mono HB.out.size)
  have HN5 := hid (hn5.mono HB.out.size)
  clear hk5 hf5 hm5 hn5
  go_wp2_with fail
  go_ret
  exact ⟨rfl, sv', wv', HK5.out, HF5.out, HM5.out, HN5.out⟩
theorem dkWrite_nil (g B : Nat) (kv sv wv : Value) (K S : List UInt8) (L : List (Nat × List UInt8)) (w : World) (p : Nat) (hpS : p ≤ S.length) (hp : p ≤ 4194304) (hS : S.length ≤ 10000000)
    (hk : IsDisk B w g kv sv wv K S L false) :
    Calls Try.prog 15 #[ptrV g, .int .i64 (p : Int), .string (bs [])] w fun e w' => e = .returned (.int .i64 0) ∧ Grow w w' := by
  obtain ⟨A, c, hsv, _⟩ := own_sl hk.s
  subst hsv
  have HK := hid hk
  have hpS' : (p : Int) ≤ (S.length : Int) := by omega
  have p0 : (0 : Int) ≤ (p : Int) := by omega
  have HPW := hid (fun ga gs gd w4 ha hs => dkWrite1_nil ga gs gd w4 p hp ha hs)
  clear hk hpS
  unfold ptrV at *
  go_enter Try.func15, Try.ntmps15
  have HB := hid (grow_refl w)
  apply wp_seq_k; intro _ _; apply wp_region_lit
  refine op_boxC (cs := #[.pointer (some ⟨g, 0, none⟩)]) rfl rfl rfl rfl ?_
  intro gd w1 hgl hgu hb hr
  have BDL := hid (Nat.le_trans HB.out.size hgl)
  replace HB := hid (Grow.trans HB.out hb)
  replace HK := hid (HK.out.grow hb)
  have BD := hid hr; have BDU := hid hgu
  clear hr hgl hgu hb
  try simp only [Act.put, List.setIfInBounds_toArray, List.set_cons_zero, List.set_cons_succ]
  refine op_boxC (cs := #[.int .i64 (p : Int)]) rfl rfl rfl rfl ?_
  intro ga w2 hgl hgu hb hr
  have BAL := hid (Nat.le_trans HB.out.size hgl)
  replace HB := hid (Grow.trans HB.out hb)
  replace HK := hid (HK.out.grow hb)
  replace BD := hid (grow_block BD.out hb)
  have BA := hid hr; have BAU := hid hgu
  clear hr hgl hgu hb
  try simp only [Act.put, List.setIfInBounds_toArray, List.set_cons_zero, List.set_cons_succ]
  refine op_boxC (cs := #[.string (bs [])]) rfl rfl rfl rfl ?_
  intro gs w3 hgl hgu hb hr
  have BSL := hid (Nat.le_trans HB.out.size hgl)
  replace HB := hid (Grow.trans HB.out hb)
  replace HK := hid (HK.out.grow hb)
  replace BD := hid (grow_block BD.out hb)
  replace BA := hid (grow_block BA.out hb)
  have BS := hid hr; have BSU := hid hgu
  clear hr hgl hgu hb
  try simp only [Act.put, List.setIfInBounds_toArray, List.set_cons_zero, List.set_cons_succ]
  go_wp2_with fail
  (refine' wp_region_head 13 2 [_, _, _, _, _, _, _, _, _, _, _, _, _] rfl (by kernel_rfl) (by kernel_rfl) ?hreg10; case' hreg10 => simp only [List.take_succ_cons, List.take_zero, List.zip_cons_cons, List.zip_nil_right, List.drop_succ_cons, List.drop_zero, List.drop_nil])
  (refine' head_load1 (i := 0) (v := (.pointer (some ⟨g, 0, none⟩))) rfl ?_ rfl rfl BD.out rfl Try.underlying25 rfl ?_; (first | exact fun _ _ _ => trivial | (intro t ht w; cases ht; simp [upE])); try simp only [Act.put, List.setIfInBounds_toArray, List.set_cons_zero, List.set_cons_succ])
  (refine' head_load1 (i := 0) (v := (.int .i64 (p : Int))) rfl ?_ rfl rfl BA.out rfl Try.underlying3 rfl ?_; (first | exact fun _ _ _ => trivial | (intro t ht w; cases ht; simp [upE])); try simp only [Act.put, List.setIfInBounds_toArray, List.set_cons_zero, List.set_cons_succ])
  (refine' head_val ?dw11 ?de11 ?dr11 ?dh11; (case' dw11 => rfl); (case' de11 => (first | exact fun _ _ _ => trivial | (intro t ht w; cases ht; simp [upE]))); (case' dr11 => (intro w' hw' _; go_simp; with_reducible rfl)); (case' dh11 => (try simp only [Act.put, List.setIfInBounds_toArray, List.set_cons_zero, List.set_cons_succ]))); (refine' head_val ?dw12 ?de12 ?dr12 ?dh12; (case' dw12 => rfl); (case' de12 => (first | exact fun _ _ _ => trivial | (intro t ht w; cases ht; simp [upE]))); (case' dr12 => (intro w' hw' _; go_simp; with_reducible rfl)); (case' dh12 => (try simp only [Act.put, List.setIfInBounds_toArray, List.set_cons_zero, List.set_cons_succ])))
  (refine' head_load1 (i := 0) (v := (.int .i64 (p : Int))) rfl ?_ rfl rfl BA.out rfl Try.underlying3 rfl ?_; (first | exact fun _ _ _ => trivial | (intro t ht w; cases ht; simp [upE])); try simp only [Act.put, List.setIfInBounds_toArray, List.set_cons_zero, List.set_cons_succ])
  (refine' head_load1 (i := 0) (v := (.pointer (some ⟨g, 0, none⟩))) rfl ?_ rfl rfl BD.out rfl Try.underlying25 rfl ?_; (first | exact fun _ _ _ => trivial | (intro t ht w; cases ht; simp [upE])); try simp only [Act.put, List.setIfInBounds_toArray, List.set_cons_zero, List.set_cons_succ])
  (refine' head_val ?dw13 ?de13 ?dr13 ?dh13; (case' dw13 => rfl); (case' de13 => (first | exact fun _ _ _ => trivial | (intro t ht w; cases ht; simp [upE]))); (case' dr13 => (intro w' hw' _; go_simp; with_reducible rfl)); (case' dh13 => (try simp only [Act.put, List.setIfInBounds_toArray, List.set_cons_zero, List.set_cons_succ]))); (refine' head_val ?dw14 ?de14 ?dr14 ?dh14; (case' dw14 => rfl); (case' de14 => (first | exact fun _ _ _ => trivial | (intro t ht w; cases ht; simp [upE]))); (case' dr14 => (intro w' hw' _; go_simp; with_reducible rfl)); (case' dh14 => (try simp only [Act.put, List.setIfInBounds_toArray, List.set_cons_zero, List.set_cons_succ])))
  (refine' head_load1 (i := 1) (v := .slice A S.length c) rfl ?_ rfl rfl HK.out.blk rfl Try.underlying37 rfl ?_; (first | exact fun _ _ _ => trivial | (intro t ht w; cases ht; simp [upE])); try simp only [Act.put, List.setIfInBounds_toArray, List.set_cons_zero, List.set_cons_succ])
  (refine' head_val ?dw15 ?de15 ?dr15 ?dh15; (case' dw15 => rfl); (case' de15 => (first | exact fun _ _ _ => trivial | (intro t ht w; cases ht; simp [upE]))); (case' dr15 => (intro w' hw' _; go_simp; with_reducible rfl)); (case' dh15 => (try simp only [Act.put, List.setIfInBounds_toArray, List.set_cons_zero, List.set_cons_succ]))); (refine' head_val ?dw16 ?de16 ?dr16 ?dh16; (case' dw16 => rfl); (case' de16 => (first | exact fun _ _ _ => trivial | (intro t ht w; cases ht; simp [upE]))); (case' dr16 => (intro w' hw' _; go_simp; with_reducible rfl)); (case' dh16 => (try simp only [Act.put, List.setIfInBounds_toArray, List.set_cons_zero, List.set_cons_succ]))); (refine' head_val ?dw17 ?de17 ?dr17 ?dh17; (case' dw17 => rfl); (case' de17 => (first | exact fun _ _ _ => trivial | (intro t ht w; cases ht; simp [upE]))); (case' dr17 => (intro w' hw' _; go_simp; with_reducible rfl)); (case' dh17 => (try simp only [Act.put, List.setIfInBounds_toArray, List.set_cons_zero, List.set_cons_succ]))); (refine' head_val ?dw18 ?de18 ?dr18 ?dh18; (case' dw18 => rfl); (case' de18 => (first | exact fun _ _ _ => trivial | (intro t ht w; cases ht; simp [upE]))); (case' dr18 => (intro w' hw' _; go_simp; with_reducible rfl)); (case' dh18 => (try simp only [Act.put, List.setIfInBounds_toArray, List.set_cons_zero, List.set_cons_succ])))
  refine head_nil ?_
  intro w4 hb _
  replace HB := hid (Grow.trans HB.out hb)
  replace HK := hid (HK.out.grow hb)
  replace BD := hid (grow_block BD.out hb)
  replace BA := hid (grow_block BA.out hb)
  replace BS := hid (grow_block BS.out hb)
  clear hb
  go_wp2_with fail
  refine (dkPowered g gs ga gd kv _ wv 0 _ w4 HK.out.blk (HPW.out ga gs gd w4 BA.out BS.out)).mono ?_
  rintro e w5 ⟨rfl, rfl⟩
  go_wp2_with fail
  go_ret
  exact ⟨rfl, HB.out⟩
theorem dkSync1 (g B : Nat) (kv sv wv : Value) (K S : List UInt8) (L : List (Nat × List UInt8)) (w : World) (hS : S.length ≤ 10000000) (hB : B ≤ w.heap.size) (hk : IsDisk B w g kv sv wv K S L false) :
    Calls Try.prog 81 #[ptrV g] w fun e w' => e = .returned (.int .i64 0) ∧ ∃ kv', IsDisk B w' g kv' sv (.slice none 0 0) S S [] false ∧ Fr (fun k => k = g) w w' ∧ (∀ k, kv'.ownBlock = some k → w.heap.size ≤ k) := by
  have HK := hid hk
  have HBW := hid hB
  have HBW0 := hid hB
  have HSL := hid hS
  clear hk hB hS
  unfold ptrV
  go_enter Try.func81, Try.ntmps81
  have HB := hid (grow_refl w)
  go_wp2_with fail
  refine (dkBurn g kv sv wv false _ HK.out.blk).mono ?_
  rintro e w1 ⟨rfl, rfl⟩
  go_wp2_with (first | (refine opG_load1 (i := 1) (v := sv) rfl rfl rfl HK.out.blk rfl Try.underlying37 rfl ?_) |  fail)
  refine (bytesClone sv S B _ HK.out.s (by have := HSL.out; omega)).mono ?_
  rintro e w2 ⟨kv', rfl, ho, hb⟩
  have HO := hid ho
  have HSZ := hid (Nat.le_refl w.heap.size)
  have HWS := hid (fun k hk' => (own_lt ho hk').1 : ∀ k, kv'.ownBlock = some k → w.heap.size ≤ k)
  have HTW := hid (show Twain kv' sv from fun k h1 h2 => by have := HWS.out k h1; have := (own_lt HK.out.s h2).2; omega)
  replace HB := hid (Grow.trans HB.out hb)
  replace HK := hid (HK.out.grow hb)
  replace HBW := hid (Nat.le_trans HBW.out (hb).size)
  clear hb
  clear ho
  go_wp2_with (first | (refine op_store1 (i := 0) rfl rfl rfl rfl rfl HK.out.blk (own_cells HO.out) (own_oneCell HO.out) infoBs (by simp [dkC]) ?_) | fail)
  intro w3 hg3 hgr3 hbl3
  have n1 := own_ne_blk HK.out.s HK.out.blk u8_ne_dk
  have n2 := own_ne_blk HO.out HK.out.blk u8_ne_dk
  have hf3 : Fr (fun k => k = g) w2 w3 := fr_grown hgr3 (fun k hk => .inl (by injection hk with hk; exact hk.symm))
  have HG3 := hid (show w3.heap[g]? = some (dkO kv' sv wv false) from hg3)
  have HS3 := hid (show Buf 5 B w3 sv S from hf3.own HK.out.s (fun k hk e => n1 (e ▸ hk)))
  have HO3 := hid (show w3.ownsRow B 5 1 kv' S.length (u8s S) from own_base (hf3.own HO.out (fun k hk e => n2 (e ▸ hk))) HBW0.out)
  have HF3 := hid ((fr_grow (D := fun k => k = g) HB.out).trans hf3)
  clear hg3 hgr3 hbl3 hf3 n1 n2
  go_wp2_with (first | (refine op_store1 (i := 2) rfl rfl rfl rfl rfl HG3.out rfl rfl infoWs (by simp [dkC]) ?_) | fail)
  intro w4 hg4 hgr4 hbl4
  have n1 := own_ne_blk HS3.out HG3.out u8_ne_dk
  have n2 := own_ne_blk HO3.out HG3.out u8_ne_dk
  have hf4 : Fr (fun k => k = g) w3 w4 := fr_grown hgr4 (fun k hk => .inl (by injection hk with hk; exact hk.symm))
  have HK4 := hid (show IsDisk B w4 g kv' sv (.slice none 0 0) S S [] false from ⟨hg4, HK.out.gB, hf4.own HO3.out (fun k hk e => n2 (e ▸ hk)), hf4.own HS3.out (fun k hk e => n1 (e ▸ hk)), World.ownsRow_nil _ _ _ _, HTW.out⟩)
  have HF4 := hid (HF3.out.trans hf4)
  clear hg4 hgr4 hbl4 hf4 n1 n2
  go_wp2_with fail
  go_ret
  exact ⟨rfl, kv', HK4.out, HF4.out, HWS.out⟩
theorem dkPoweredS (g : Nat) (kv sv wv : Value) (k : Int) (V : World → Prop) (w : World) (hg : w.heap[g]? = some (dkO kv sv wv false))
    (hc : Calls Try.prog 81 #[ptrV g] w fun e w' => e = .returned (.int .i64 k) ∧ V w') :
    Calls Try.prog 76 #[ptrV g, .bool true, .func (.func 81) #[ptrV g] #[]] w fun e w' => e = .returned (.int .i64 k) ∧ V w' := by
  have HG := hid hg
  have HC := hid hc
  clear hg hc
  unfold ptrV at *
  go_enter Try.func76, Try.ntmps76
  have HB := hid (grow_refl w)
  go_wp2_with (first | (refine opG_load1 (i := 0) (v := kv) rfl rfl rfl HG.out rfl Try.underlying37 rfl ?_) | (refine opG_load1 (i := 1) (v := sv) rfl rfl rfl HG.out rfl Try.underlying37 rfl ?_) | (refine opG_load1 (i := 2) (v := wv) rfl rfl rfl HG.out rfl Try.underlying110 rfl ?_) | (refine opG_load1 (i := 3) (v := (.bool false)) rfl rfl rfl HG.out rfl Try.underlying4 rfl ?_) | (refine opG_load1 (i := 4) (v := (.bool false)) rfl rfl rfl HG.out rfl Try.underlying4 rfl ?_) | (refine opG_load1 (i := 5) (v := (.int .i64 0)) rfl rfl rfl HG.out rfl Try.underlying3 rfl ?_) | (refine opG_load1 (i := 6) (v := (.int .u64 0)) rfl rfl rfl HG.out rfl Try.underlying23 rfl ?_) | (refine opG_load1 (i := 7) (v := (.int .i64 0)) rfl rfl rfl HG.out rfl Try.underlying3 rfl ?_) |  fail)
  refine HC.out.mono ?_
  rintro e w1 ⟨rfl, hv⟩
  have HV := hid hv
  clear hv
  go_wp2_with fail
  go_ret
  exact ⟨rfl, HV.out⟩
theorem dkSync (g B : Nat) (kv sv wv : Value) (K S : List UInt8) (L : List (Nat × List UInt8)) (w : World) (hS : S.length ≤ 10000000) (hB : B ≤ w.heap.size) (hk : IsDisk B w g kv sv wv K S L false) :
    Calls Try.prog 16 #[ptrV g] w fun e w' => e = .returned (.int .i64 0) ∧ ∃ kv', IsDisk B w' g kv' sv (.slice none 0 0) S S [] false ∧ Fr (fun k => k = g) w w' ∧ (∀ k, kv'.ownBlock = some k → w.heap.size ≤ k) := by
  have HC := hid (dkPoweredS g kv sv wv 0 _ w hk.blk (dkSync1 g B kv sv wv K S L w hS hB hk))
  clear hk hB hS
  unfold ptrV at *
  go_enter Try.func16, Try.ntmps16
  have HB := hid (grow_refl w)
  go_wp2_with fail
  refine HC.out.mono ?_
  rintro e w1 ⟨rfl, hv⟩
  have HV := hid hv
  clear hv HC
  go_wp2_with fail
  go_ret
  exact ⟨rfl, HV.out⟩
end Go.Proofs.Ytkbapegohodcgaa
