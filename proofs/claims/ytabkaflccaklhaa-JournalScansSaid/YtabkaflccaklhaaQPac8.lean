/- pack.Reader: Id, Ids, Texts where they are there; the reference's Same: contracts. -/
import Derived.Test.YtabkaflccaklhaaQPac7
import Derived.Test.YtabkaflccaklhaaQRowR
set_option linter.unusedSimpArgs false
set_option linter.unusedVariables false
namespace Go.Proofs.Ytabkaflccaklhaa
open Go.RowKit
open Go.Qk hiding rotr b4
open Pac
set_option maxHeartbeats 1000000
set_option maxRecDepth 100000
theorem fr_below {D : Nat → Prop} {a b c : World} (h : Fr D a b) (k : Below a.heap.size b c) : Fr D a c :=
  ⟨k.os.trans h.os, k.tape.trans h.tape, k.output.trans h.output, Nat.le_trans h.size k.size, fun i hi hd => (k.block i hi).trans (h.block i hi hd)⟩
theorem take_ids (xs : List (List UInt8)) (k : Nat) (h : k < xs.length) : xs.take (k + 1) = xs.take k ++ [xs.getD k []] := by
  rw [List.take_succ_eq_append_getElem h]
  simp [h]
theorem own_fr {e : TypeId} {B : Nat} {D : Nat → Prop} {w w1 : World} {v : Value} {xs : List (List UInt8)} (h : OwnIds e B w v xs) (hf : Fr D w w1) (hd : ∀ k, B ≤ k → ¬ D k) : OwnIds e B w1 v xs := ⟨hf.own h.1 (fun k hk => hd k (own_lt h.1 hk).1), h.2⟩
theorem rdId (g : Nat) (L : List UInt8) (p : Nat) (a : List UInt8) (ha : (L.drop p).take 32 = a) (h32 : a.length = 32) (hp : p + 32 ≤ L.length) (hL : L.length ≤ 1000000000) (w : World) (hg : w.heap[g]? = some (rdOb L p 0)) :
    Calls Try.prog 137 #[ptrV g] w fun r w' => r = .returned (idV a) ∧ w'.heap[g]? = some (rdOb L (p + 32) 0) ∧ Fr (fun k => k = g) w w' := by
  have HG0 := hid hg
  have HT := hid (fun w (hg : w.heap[g]? = some (rdOb L p 0)) => rdTake g L p 32 (by omega) hL hp w hg)
  rw [ha] at HT
  have HI := hid (fun w => idBytes a (by omega) w)
  rw [show idOf a = a by rw [idOf, if_pos h32], show idErr a = 0 by rw [idErr, if_pos h32]] at HI
  have HLT := hid (blk_lt hg)
  have H32 := hid h32
  clear hg ha hp hL h32
  unfold ptrV at *
  go_enter Try.func137, Try.ntmps137
  apply wp_seq_k; intro _ _; apply wp_region_lit
  refine op_alloc rfl rfl ?_
  intro gr W hgl hgu hb hr
  have HR := hid hr; have HB := hid hb; have HRL := hid hgl; have HRU := hid hgu
  clear hr hb hgl hgu
  try simp only [Act.put, List.setIfInBounds_toArray, List.set_cons_zero, List.set_cons_succ]
  have HG := hid (grow_block HG0.out HB.out)
  go_wp2_with fail
  refine (HT.out _ HG.out).mono ?_
  rintro _ w2 ⟨rfl, hg, hf⟩
  have HG2 := hid hg
  have HF2 := hid ((fr_grow (D := fun k => k = g) HB.out).trans hf)
  have HR2 := hid (hf.blk HR.out (fun e => by have := HLT.out; have := HRL.out; omega))
  have HGR := hid HRL.out
  have HGU := hid (Nat.lt_of_lt_of_le HRU.out hf.size)
  clear hg hf HG HB HR HT HRL HRU
  go_wp2_with fail
  refine (HI.out _).mono ?_
  rintro _ w3 ⟨rfl, hb⟩
  replace HG2 := hid (grow_block HG2.out hb)
  replace HF2 := hid (Fr.trans HF2.out (fr_grow hb))
  replace HR2 := hid (grow_block HR2.out hb)
  clear hb
  go_wp2_with (first | (refine op_allocstore (l := a) rfl rfl rfl rfl rfl rfl (fun _ => rfl) ⟨fun _ => rfl, H32.out⟩ ?_) | fail)
  intro g5 w5 hgl hgu hb hr
  have H5 := hid hr
  clear hgl hgu hr
  replace HG2 := hid (grow_block HG2.out hb)
  replace HF2 := hid (Fr.trans HF2.out (fr_grow hb))
  replace HR2 := hid (grow_block HR2.out hb)
  clear hb
  go_wp2_with (first | (refine op_loadId rfl rfl rfl H5.out H32.out ?_) | (refine op_storeId (l := a) rfl rfl rfl rfl rfl HR2.out (by rfl) H32.out ?_) | fail)
  intro w6 hz hgz hbz
  have HZ := hid hz
  have HF6 := hid (HF2.out.step (fr_grown (D := fun k => k = gr) hgz (fun k hk => .inl (by injection hk with hk; exact hk.symm))) (fun k hk => .inr (by subst hk; exact HGR.out)))
  have HG6 := hid (blk_other' hgz HG2.out (fun e => by injection e with e; have := HLT.out; have := HGR.out; omega))
  clear hz hgz hbz
  go_wp2_with fail
  refine bodyPost_ret (ret_id rfl rfl HZ.out H32.out) rfl ⟨rfl, HG6.out, HF6.out⟩
theorem rdIds (g : Nat) (L : List UInt8) (p most k0 : Nat) (xs : List (List UInt8)) (hp : p ≤ L.length) (hL : L.length ≤ 1000000000) (hR : numR L p = .ok xs.length k0) (hv : xs.length ≤ 100000) (hm : xs.length ≤ most) (h32 : ∀ s ∈ xs, s.length = 32)
    (hat : ∀ k, k < xs.length → (L.drop (p + k0 + 32 * k)).take 32 = xs.getD k [] ∧ p + k0 + 32 * k + 32 ≤ L.length) (w : World) (hg : w.heap[g]? = some (rdOb L p 0)) :
    Calls Try.prog 136 #[ptrV g, .int .i64 (most : Int), .func (.func 137) #[ptrV g] #[]] w fun r w' => ∃ v, r = .returned v ∧ OwnIds 25 w.heap.size w' v xs ∧ w'.heap[g]? = some (rdOb L (p + k0 + 32 * xs.length) 0) ∧ Fr (fun k => k = g) w w' := by
  have HG := hid hg
  have HC := hid (rdCount_ok g L p most xs.length k0 hp hL hR (by omega) hm w hg)
  have H32 := hid h32
  have HLT := hid (blk_lt hg)
  have HI := hid (fun k (hk : k < xs.length) w (hg : w.heap[g]? = some (rdOb L (p + k0 + 32 * k) 0)) => rdId g L (p + k0 + 32 * k) (xs.getD k []) (hat k hk).1 (getD_mem_len h32 hk) (hat k hk).2 hL w hg)
  clear hg hp hL hR hm h32 hat
  unfold ptrV at *
  go_enter Try.func136, Try.ntmps136
  have HB := hid (grow_refl w)
  clear HB
  go_wp2_with (first | (refine opG_load1 (i := 0) (v := (.string (bs L))) rfl rfl rfl HG.out rfl Try.underlying9 rfl ?_) | (refine opG_load1 (i := 1) (v := (.int .i64 (p : Int))) rfl rfl rfl HG.out rfl Try.underlying3 rfl ?_) | (refine opG_load1 (i := 2) (v := (.int .i64 0)) rfl rfl rfl HG.out rfl Try.underlying34 rfl ?_) |  fail)
  refine HC.out.mono ?_
  rintro _ w1 ⟨rfl, hg, hf⟩
  have HG1 := hid (show w1.heap[g]? = some (rdOb L (p + k0 + 32 * 0) 0) by rw [Nat.mul_zero, Nat.add_zero]; exact hg)
  have HF1 := hid hf
  clear hg hf HG HC
  go_wp2_with fail
  go_loopg [10, 25] (xs.length + 1) (fun z v i wr => ∃ k : Nat, k ≤ xs.length ∧ z = xs.length + 1 - k ∧ i = .int .i64 (k : Int) ∧ Hid (OwnIds 25 w.heap.size wr v (xs.take k)) ∧ Hid (wr.heap[g]? = some (rdOb L (p + k0 + 32 * k) 0)) ∧ Hid (Fr (fun k => k = g) w wr))
  case atStart => exact ⟨0, by omega, by omega, rfl, hid ⟨World.ownsRow_nil _ _ _ _, fun _ h => by cases h⟩, HG1, HF1⟩
  case round =>
    clear HG1 HF1
    obtain ⟨k, hk, hz, rfl, HO, HG, HF⟩ := hrel
    by_cases hlt : k < xs.length
    · have hi := HI.out k hlt wr HG.out
      have HCI := hid hi
      have S1 := hid (getD_mem_len H32.out hlt)
      have HTK := hid (take_ids xs k hlt)
      clear hi
      generalize xs.getD k [] = x at *
      go_wp2_with fail
      refine HCI.out.mono ?_
      rintro _ w2 ⟨rfl, hg, hf⟩
      have HG2 := hid (show w2.heap[g]? = some (rdOb L (p + k0 + 32 * (k + 1)) 0) by rw [Nat.mul_succ, ← Nat.add_assoc]; exact hg)
      have HO2 := hid (own_fr HO.out hf (fun k hk e => by have := HLT.out; omega))
      have HF2 := hid (HF.out.trans hf)
      clear hg hf HG HO HF HCI
      go_wp2_with (first | (refine op_allocstore (l := x) rfl rfl rfl rfl rfl rfl (fun _ => rfl) ⟨fun _ => rfl, S1.out⟩ ?_) | fail)
      intro g5 w5 hgl hgu hb hr
      have H5 := hid hr
      replace HG2 := hid (grow_block HG2.out hb)
      replace HF2 := hid (Fr.trans HF2.out (fr_grow hb))
      replace HO2 := hid (HO2.out.grow hb)
      clear hb
      clear hgl hgu hr
      have HBE := hid (Below.refl w.heap.size w5)
      have HSZ := hid (HF2.out.size)
      go_wp2_with (first | (refine opG_load1 (i := 0) (v := (.string (bs L))) rfl rfl rfl HG2.out rfl Try.underlying9 rfl ?_) | (refine opG_load1 (i := 1) (v := (.int .i64 ((p + k0 + 32 * (k + 1) : Nat) : Int))) rfl rfl rfl HG2.out rfl Try.underlying3 rfl ?_) | (refine opG_load1 (i := 2) (v := (.int .i64 0)) rfl rfl rfl HG2.out rfl Try.underlying34 rfl ?_) | (refine op_loadId rfl rfl rfl H5.out S1.out ?_) | (refine op_appIds1 (w0 := w5) (B := w.heap.size) rfl rfl rfl rfl rfl rfl (fun _ => rfl) (fun _ => rfl) S1.out HO2.out HBE.out HSZ.out (by rw [List.length_take]; omega) ?_) |  fail)
      intro sl v2 w6 ho hb _
      have HO6 := hid (show OwnIds 25 w.heap.size w6 v2 (xs.take (k + 1)) by rw [HTK.out]; exact ho)
      have HG6 := hid (show w6.heap[g]? = some (rdOb L (p + k0 + 32 * (k + 1)) 0) by rw [hb.block g HLT.out]; exact HG2.out)
      have HF6 := hid (fr_below HF2.out hb)
      clear ho hb HG2 HF2 HO2
      go_wp2_with fail
      go_roundg (xs.length + 1 - (k + 1))
      case rel => exact ⟨k + 1, by omega, rfl, by go_num, HO6, HG6, HF6⟩
      case measure => omega
    · obtain rfl : k = xs.length := by omega
      rw [List.take_length] at HO
      go_wp2_with fail
      go_ret
      exact ⟨_, rfl, HO.out, HG.out, HF.out⟩
end Go.Proofs.Ytabkaflccaklhaa
