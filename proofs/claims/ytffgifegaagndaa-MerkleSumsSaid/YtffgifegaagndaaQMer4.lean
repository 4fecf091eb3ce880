/- merkle.place; merkle.Prove where the id is in the row. -/
import Derived.Test.YtffgifegaagndaaQMer3
import Derived.Test.YtffgifegaagndaaQSig4
set_option linter.unusedSimpArgs false
set_option linter.unusedVariables false
namespace Go.Proofs.Ytffgifegaagndaa
open Go.RowKit
open Go.Qk hiding rotr b4
set_option maxHeartbeats 1000000
set_option maxRecDepth 100000
def ownAt (B : Nat) (xs : List (List UInt8)) (v : Value) (w : World) : Prop := OwnIds 23 B w v xs
section
variable {ops : Array Oper} {W : World} {Qe : (Tmp → World → Prop) → Act → Prop}
theorem head_own {o : Oper} {r : List (Oper × (Value → World → Prop))} {E : Tmp → World → Prop} {a : Act} {B : Nat} {xs : List (List UInt8)} {f : FuncId} {args : Array Value} (hwant : Region.wanted o (yielded ops a.tmps) = true) (hE : ∀ t, o.dst = some t → ∀ w, E t w)
    (hrun : ∀ w, (execOp a.eval o).run Try.prog w = .ok (.enter f args) w) (hc : ∀ w, Grow W w → (∀ t ∈ o.looksAt ops, E t w) → Calls Try.prog f args w fun e w' => ∃ v, e = .returned v ∧ ownAt B xs v w' ∧ Below w.heap.size w w')
    (h : ∀ A c, Head Try.prog ops W Qe r (upE E o.dst (ownAt B xs (.slice A xs.length c))) (a.put o.dst (.slice A xs.length c))) : Head Try.prog ops W Qe ((o, ownAt B xs) :: r) E a := by
  refine head_abs (V := ownAt B xs) hwant ?_ ?_ ?_
  · intro v w1 w2 hr hg
    exact OwnIds.grow hr hg
  · intro w1 hw1 hl
    refine does_call (hrun w1) ((hc w1 hw1 hl).mono ?_)
    rintro e w2 ⟨v, rfl, hv, hb⟩
    exact ⟨v, rfl, hb, hv⟩
  · rintro v ⟨_, hv⟩
    obtain ⟨⟨A, c, rfl, _⟩, _⟩ := OwnIds.sl hv
    exact h A c
theorem own_at {E : Tmp → World → Prop} {t : Tmp} {B : Nat} {xs : List (List UInt8)} {v : Value} {w : World} (h : upE E (some t) (ownAt B xs v) t w) : OwnIds 23 B w v xs := by
  unfold upE at h
  rw [if_pos rfl] at h
  exact h
end
theorem run_opBuild {o : Oper} {a : Act} {w : World} {t : TypeId} {parts : Array (Nat × Operand)} {ps : Array (Nat × Value)} {v : Value} (ho : o.op = .build t parts) (hp : parts.map (fun (i, x) => (i, a.eval x)) = ps) (hr : ∀ w, (Instr.build t ps).run Try.prog w = .ok v w) :
    (execOp a.eval o).run Try.prog w = .ok (.value v) w := by
  unfold execOp
  simp only [ho, hp, Sem.run_bind, Sem.run_pure, Result.andThen_ok, hr]
theorem mkPlace (A : Option Addr) (n c : Nat) (xs : List (List UInt8)) (i : Nat) (w : World) (hx : IdRow w A xs) (hn : xs.length = n) (hc : n ≤ c) (h32 : ∀ s ∈ xs, s.length = 32) (hmax : n ≤ 1000000) (hi : i < n) :
    Calls Try.prog 107 #[.slice A n c, .int .i64 (i : Int)] w fun e w' => ∃ WA m wc, e = .returned (.agg (placeC (xs.getD i []) i (.slice WA m wc)).toArray) ∧ OwnIds 23 w.heap.size w' (.slice WA m wc) (wayL xs i) ∧ (wayL xs i).length = m ∧ Below w.heap.size w w' := by
  have HX := hid hx
  have HW := hid (fun w h => mkWay n A n c xs i w (by omega) h hn hc h32 hmax (by omega))
  obtain ⟨ad, rfl, hd⟩ := hx.at_ i (by omega)
  have HD := hid hd
  have S1 := hid (getD_mem_len h32 (show i < xs.length by omega))
  have i0 : (0 : Int) ≤ (i : Int) := by omega
  have i1 : (i : Int) < (n : Int) := by omega
  clear hx hn hc h32 hd
  generalize xs.getD i [] = s at *
  generalize wayL xs i = y at *
  go_enter Try.func107, Try.ntmps107
  have HB := hid (grow_refl w)
  apply wp_seq_k; intro _ _; apply wp_region_lit
  refine op_allocC (z := undef) (cs := (placeC (List.replicate 32 0) 0 (.slice none 0 0)).toArray) rfl rfl (fun w => by kernel_rfl) ?_
  intro gr wr hgl hgu hb hr
  have HRL := hid (Nat.le_trans HB.out.size hgl)
  have HRU := hid hgu
  replace HB := hid (Grow.trans HB.out hb)
  clear hb
  have HR := hid hr
  clear hr hgl hgu
  try simp only [Act.put, List.setIfInBounds_toArray, List.set_cons_zero, List.set_cons_succ]
  refine wpList_nil ?_
  have HDB := hid (fun j v hv => grow_cell (HD.out j v hv) HB.out)
  go_wp2_with fail
  (refine' wp_region_head 8 2 [_, _, _, _, _, _, _, _] rfl (by kernel_rfl) (by kernel_rfl) ?hreg1; case' hreg1 => simp only [List.take_succ_cons, List.take_zero, List.zip_cons_cons, List.zip_nil_right, List.drop_succ_cons, List.drop_zero, List.drop_nil])
  (refine' head_val ?dw2 ?de2 ?dr2 ?dh2; (case' dw2 => rfl); (case' de2 => (first | exact fun _ _ _ => trivial | (intro t ht w; cases ht; simp [upE]))); (case' dr2 => (intro w' hw' _; go_simp; with_reducible rfl)); (case' dh2 => (try simp only [Act.put, List.setIfInBounds_toArray, List.set_cons_zero, List.set_cons_succ]))); (refine' head_val ?dw3 ?de3 ?dr3 ?dh3; (case' dw3 => rfl); (case' de3 => (first | exact fun _ _ _ => trivial | (intro t ht w; cases ht; simp [upE]))); (case' dr3 => (intro w' hw' _; go_simp; with_reducible rfl)); (case' dh3 => (try simp only [Act.put, List.setIfInBounds_toArray, List.set_cons_zero, List.set_cons_succ]))); (refine' head_val ?dw4 ?de4 ?dr4 ?dh4; (case' dw4 => rfl); (case' de4 => (first | exact fun _ _ _ => trivial | (intro t ht w; cases ht; simp [upE]))); (case' dr4 => (intro w' hw' _; go_simp; with_reducible rfl)); (case' dh4 => (try simp only [Act.put, List.setIfInBounds_toArray, List.set_cons_zero, List.set_cons_succ])))
  (refine' head_loadAt (x := _) rfl ?_ rfl rfl (HDB.out) (S1.out) ?_; (first | exact fun _ _ _ => trivial | (intro t ht w; cases ht; simp [upE])); try simp only [Act.put, List.setIfInBounds_toArray, List.set_cons_zero, List.set_cons_succ])
  (refine' head_val ?dw5 ?de5 ?dr5 ?dh5; (case' dw5 => rfl); (case' de5 => (first | exact fun _ _ _ => trivial | (intro t ht w; cases ht; simp [upE]))); (case' dr5 => (intro w' hw' _; go_simp; with_reducible rfl)); (case' dh5 => (try simp only [Act.put, List.setIfInBounds_toArray, List.set_cons_zero, List.set_cons_succ]))); (refine' head_val ?dw6 ?de6 ?dr6 ?dh6; (case' dw6 => rfl); (case' de6 => (first | exact fun _ _ _ => trivial | (intro t ht w; cases ht; simp [upE]))); (case' dr6 => (intro w' hw' _; go_simp; with_reducible rfl)); (case' dh6 => (try simp only [Act.put, List.setIfInBounds_toArray, List.set_cons_zero, List.set_cons_succ]))); (refine' head_val ?dw7 ?de7 ?dr7 ?dh7; (case' dw7 => rfl); (case' de7 => (first | exact fun _ _ _ => trivial | (intro t ht w; cases ht; simp [upE]))); (case' dr7 => (intro w' hw' _; go_simp; with_reducible rfl)); (case' dh7 => (try simp only [Act.put, List.setIfInBounds_toArray, List.set_cons_zero, List.set_cons_succ])))
  (refine' head_own (B := wr.heap.size) (xs := y) ?xw1 ?xe1 ?xr1 ?xc1 ?xh1; (case' xw1 => rfl); (case' xe1 => (first | exact fun _ _ _ => trivial | (intro t ht w; cases ht; simp [upE]))); (case' xr1 => (intro w'; go_simp; first | exact ⟨rfl, rfl⟩ | with_reducible rfl)); (case' xc1 => (intro w' hw' hE; exact (HW.out w' (HX.out.grow (HB.out.trans hw'))).mono fun _ _ ⟨v, he, ho, hb⟩ => ⟨v, he, OwnIds.base ho hw'.size, hb⟩)); (case' xh1 => (intro WA wc; try simp only [Act.put, List.setIfInBounds_toArray, List.set_cons_zero, List.set_cons_succ])))
  refine head_nil ?_
  intro w9 hb hE
  have HO := hid (own_at (hE 12))
  replace HB := hid (Grow.trans HB.out hb)
  replace HR := hid (grow_block HR.out hb)
  clear hb hE HDB
  have HBD := hid (fun w => run_buildPlace s S1.out i WA y.length wc w)
  go_wp2_with (first | (refine opG_build (ps := #[(0, idV s), (1, .int .i64 (i : Int)), (2, .slice WA y.length wc)]) rfl rfl (by simp only [List.map_toArray, List.map_cons, List.map_nil]; rfl) HBD.out ?_) | (refine store_block 70 _ _ gr 0 (placeC s i (.slice WA y.length wc)) (placeC (List.replicate 32 0) 0 (.slice none 0 0)) (placeC s i (.slice WA y.length wc)) 70 rfl rfl rfl rfl rfl HR.out (by rw [infoPlace, placeC_length s S1.out]) (by rw [placeC_length s S1.out, placeC_length _ (by simp)]; omega) (placeC_one _ _ _ _ _) (by rw [List.take_zero, List.nil_append, List.drop_eq_nil_of_le (by rw [placeC_length s S1.out, placeC_length _ (by simp)]; omega), List.append_nil]) ?_))
  intro wz hz hgb hbz
  have HZ := hid hz
  have HBZ := hid (hbz _ _ HB.out HRL.out)
  have HOZ := hid (own_keep HO.out hgb HRU.out)
  have HBS := hid (show w.heap.size ≤ wr.heap.size by have := HRL.out; have := HRU.out; omega)
  clear hz hgb hbz
  go_wp2_with fail
  refine bodyPost_ret (results_cell_row rfl _ _ gr _ _ _ _ rfl HZ.out Try.underlying70 rfl (by rw [infoPlace, List.size_toArray, placeC_length s S1.out])) rfl ?_
  exact ⟨WA, y.length, wc, rfl, HOZ.out.base HBS.out, rfl, HBZ.out⟩
end Go.Proofs.Ytffgifegaagndaa
