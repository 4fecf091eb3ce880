/- quitclaimref25.Scan: contract. -/
import Derived.Test.YtabkaflccaklhaaQJouG
import Derived.Test.YtabkaflccaklhaaQLate
set_option linter.unusedSimpArgs false
set_option linter.unusedVariables false
namespace Go.Proofs.Ytabkaflccaklhaa
open Go.RowKit
open Go.Qk hiding rotr b4
open Pac
set_option maxHeartbeats 8000000
set_option maxRecDepth 100000
/-- A cell for a struct, made in a drawn region. -/
def celNew (T : TypeId) (cs : Array Value) (W : World) (v : Value) (w : World) : Prop := ∃ g, v = .pointer (some ⟨g, 0, none⟩) ∧ W.heap.size ≤ g ∧ w.heap[g]? = some (.cells cs T (0, 0))
section
variable {ops : Array Oper} {W : World} {Qe : (Tmp → World → Prop) → Act → Prop}
theorem head_newC {o : Oper} {r : List (Oper × (Value → World → Prop))} {E : Tmp → World → Prop} {a : Act} {T : TypeId} {cs : Array Value} (hwant : Region.wanted o (yielded ops a.tmps) = true) (ho : o.op = .alloc T)
    (hr : ∀ w, (Instr.alloc T true (.tuple #[])).run Try.prog w = .ok (.pointer (some ⟨w.heap.size, 0, none⟩)) (w.alloc (.cells cs T)))
    (h : ∀ g, Head Try.prog ops W Qe r (upE E o.dst (celNew T cs W (.pointer (some ⟨g, 0, none⟩)))) (a.put o.dst (.pointer (some ⟨g, 0, none⟩)))) : Head Try.prog ops W Qe ((o, celNew T cs W) :: r) E a := by
  refine head_abs (V := celNew T cs W) hwant ?_ ?_ ?_
  · rintro v w1 w2 ⟨g, rfl, h1, h3⟩ hg
    exact ⟨g, rfl, h1, grow_block h3 hg⟩
  · intro w1 hw1 _
    refine does_val (v := .pointer (some ⟨w1.heap.size, 0, none⟩)) (w' := w1.alloc (.cells cs T)) ?_ ⟨grow_alloc _ _, _, rfl, hw1.size, heap_alloc_new _ _⟩
    unfold execOp
    simp only [ho, Sem.run_bind, Sem.run_pure, Result.andThen_ok, hr]
  · rintro v ⟨_, g, rfl, _⟩
    exact h g
theorem celNew_at {E : Tmp → World → Prop} {t : Tmp} {g : Nat} {w : World} {T : TypeId} {cs : Array Value} (h : upE E (some t) (celNew T cs W (.pointer (some ⟨g, 0, none⟩))) t w) : W.heap.size ≤ g ∧ w.heap[g]? = some (.cells cs T (0, 0)) := by
  unfold upE at h
  rw [if_pos rfl] at h
  obtain ⟨g', hg, h1, h3⟩ := h
  injection hg with hg
  injection hg with hg
  injection hg with hg
  subst hg
  exact ⟨h1, h3⟩
end
theorem grow_alloc_of {w w1 : World} (_ : Grow w w1) (o : Obj) : Grow w1 (w1.alloc o) := grow_alloc w1 o
theorem refScan25 (S : List UInt8) (hS : S.length ≤ 100000000) (w : World) :
    Calls Try.prog 13 #[.string (bs S)] w fun e w' => ∃ ov, e = .returned (.tuple #[ov, .int .i64 ((scanR S).2.1 : Int), idV (scanR S).2.2]) ∧ w'.ownsRow w.heap.size 108 2 ov (scanR S).1.length (frCells (scanR S).1) ∧ Below w.heap.size w w' := by
  have HS := hid hS
  have hsz := bs_size S
  clear hS
  go_enter Try.func13, Try.ntmps13
  have HB := hid (grow_refl w)
  go_wp2_with fail
  have h0 := heap_alloc_new w (Obj.cells (u8s (zero8 32)).toArray 25)
  have g1 := grow_alloc w (Obj.cells (u8s (zero8 32)).toArray 25)
  have s1 : (w.alloc (Obj.cells (u8s (zero8 32)).toArray 25)).heap.size = w.heap.size + 1 := by simp
  have ho := empty_row (w.alloc (Obj.cells (u8s (zero8 32)).toArray 25)) w.heap.size 108 2 (by simp)
  have g2 := grow_alloc (w.alloc (Obj.cells (u8s (zero8 32)).toArray 25)) (.cells #[] 108)
  rw [s1] at ho
  refine (begin25 _).mono ?_
  rintro _ w2 ⟨rfl, hb⟩
  have HG4 := hid (show w2.heap[w.heap.size]? = some (.cells (u8s (zero8 32)).toArray 25 (0, 0)) from grow_block (grow_block h0 g2) hb)
  have HL4 := hid (Nat.le_refl w.heap.size)
  have HS4 := hid (Array.getElem?_eq_some_iff.1 HG4.out).1
  have HO := hid (own_grow ho hb)
  replace HB := hid (show Grow w w2 from Grow.trans (Grow.trans g1 g2) hb)
  clear h0 g1 s1 ho g2 hb
  go_wp2_with (first |  (refine op_allocstore (l := beginL) rfl rfl rfl rfl rfl rfl (fun _ => rfl) ⟨fun _ => rfl, beginL_length⟩ ?_))
  intro g7 w1 hgl hgu hb hr
  have X7G := hid hgl
  have X7L := hid (Nat.le_trans HB.out.size hgl)
  replace HB := hid (Grow.trans HB.out hb)
  replace HG4 := hid (grow_block HG4.out hb)
  replace HO := hid (own_grow HO.out hb)
  have X7 := hid hr; have X7U := hid hgu
  clear hr hgl hgu hb
  try simp only [Act.put, List.setIfInBounds_toArray, List.set_cons_zero, List.set_cons_succ]
  have HL7 := X7L
  have HBL := hid beginL_length
  have HN47 := hid (show w.heap.size ≠ g7 from Nat.ne_of_lt (Nat.lt_of_lt_of_le HS4.out X7G.out))
  clear X7U X7L X7G HS4
  go_wp2_with fail
  go_loopg [5, 6] (S.length + 1) (fun z ov ii wr => ∃ (l : List (UInt8 × List UInt8)) (c : List UInt8) (e : Nat), z = S.length + 1 - e ∧ ii = .int .i64 (e : Int) ∧ Hid (wr.ownsRow w.heap.size 108 2 ov l.length (frCells l)) ∧ Hid (wr.heap[g7]? = some (.cells (u8s c).toArray 25 (0, 0))) ∧ Hid (wr.heap[w.heap.size]? = some (.cells (u8s (zero8 32)).toArray 25 (0, 0))) ∧ Hid (ScanAt S l e c) ∧ Hid (Grow w wr))
  case atStart => exact ⟨[], beginL, 0, by omega, rfl, HO, X7, HG4, hid ⟨Nat.zero_le _, beginL_length, S.length, Nat.le_refl _, by simp [scanR]⟩, HB⟩
  case round =>
    clear HO X7 HG4 HB
    obtain ⟨l, c, e, hz, rfl, HO, HG7, HG4, HAT, HB⟩ := hrel
    have he := HAT.out.1
    have HC := hid HAT.out.2.1
    have hle : (e : Int) ≤ (S.length : Int) := by omega
    have e0 : (0 : Int) ≤ (e : Int) := by omega
    have hex : (bs S).extract e S.length = bs (S.drop e) := by rw [bs_extract]; exact congrArg bs (List.take_of_length_le (by simp))
    have HON := hid (fun w => refOne25 (S.drop e) c HC.out (by have := HS.out; simp; omega) w)
    have HOT := hid (show oneT (S.drop e) c = match oneF (S.drop e) c with | none => (0, [], 0) | some (k, p, m) => ((k.toNat : Int), p, m) from rfl)
    generalize oneT (S.drop e) c = T at *
    obtain ⟨fk, fp, fn⟩ := T
    dsimp only at HON
    go_wp2_with fail
    have h7s := hid (Array.getElem?_eq_some_iff.1 HG7.out).1
    have h4s := hid (Array.getElem?_eq_some_iff.1 HG4.out).1
    have hos := hid (fun k hk => (own_lt HO.out (k := k) hk).2)
    have HBS := hid HB.out.size
    (refine' wp_region_headL 9 2 7 [_, _, _, _, _, _, _, _, _] rfl (by kernel_rfl) (by kernel_rfl) (by intro op ho v c a w h; cases ho; exact h) ?hreg1; case' hreg1 => simp only [List.take_succ_cons, List.take_zero, List.zip_cons_cons, List.zip_nil_right, List.drop_succ_cons, List.drop_zero, List.drop_nil])
    (refine' head_val ?dw2 ?de2 ?dr2 ?dh2; (case' dw2 => rfl); (case' de2 => (first | exact fun _ _ _ => trivial | (intro t ht w; cases ht; simp [upE]))); (case' dr2 => (intro w' hw' _; go_simp; with_reducible rfl)); (case' dh2 => (try simp only [Act.put, List.setIfInBounds_toArray, List.set_cons_zero, List.set_cons_succ]))); (refine' head_val ?dw3 ?de3 ?dr3 ?dh3; (case' dw3 => rfl); (case' de3 => (first | exact fun _ _ _ => trivial | (intro t ht w; cases ht; simp [upE]))); (case' dr3 => (intro w' hw' _; go_simp; with_reducible rfl)); (case' dh3 => (try simp only [Act.put, List.setIfInBounds_toArray, List.set_cons_zero, List.set_cons_succ]))); (refine' head_val ?dw4 ?de4 ?dr4 ?dh4; (case' dw4 => rfl); (case' de4 => (first | exact fun _ _ _ => trivial | (intro t ht w; cases ht; simp [upE]))); (case' dr4 => (intro w' hw' _; go_simp; with_reducible rfl)); (case' dh4 => (try simp only [Act.put, List.setIfInBounds_toArray, List.set_cons_zero, List.set_cons_succ])))
    (refine' head_loadId (x := _) rfl ?_ rfl rfl HG7.out (HC.out) ?_; (first | exact fun _ _ _ => trivial | (intro t ht w; cases ht; simp [upE])); try simp only [Act.put, List.setIfInBounds_toArray, List.set_cons_zero, List.set_cons_succ])
    (refine' head_call ?cw5 ?ce5 ?cr5 ?cc5 ?ch5; (case' cw5 => rfl); (case' ce5 => (first | exact fun _ _ _ => trivial | (intro t ht w; cases ht; simp [upE]))); (case' cr5 => (intro w'; go_simp; first | exact ⟨rfl, rfl⟩ | with_reducible rfl)); (case' cc5 => (intro w' hw' _; exact HON.out w')); (case' ch5 => (try simp only [Act.put, List.setIfInBounds_toArray, List.set_cons_zero, List.set_cons_succ])))
    (refine' head_val ?dw6 ?de6 ?dr6 ?dh6; (case' dw6 => rfl); (case' de6 => (first | exact fun _ _ _ => trivial | (intro t ht w; cases ht; simp [upE]))); (case' dr6 => (intro w' hw' _; go_simp; with_reducible rfl)); (case' dh6 => (try simp only [Act.put, List.setIfInBounds_toArray, List.set_cons_zero, List.set_cons_succ]))); (refine' head_val ?dw7 ?de7 ?dr7 ?dh7; (case' dw7 => rfl); (case' de7 => (first | exact fun _ _ _ => trivial | (intro t ht w; cases ht; simp [upE]))); (case' dr7 => (intro w' hw' _; go_simp; with_reducible rfl)); (case' dh7 => (try simp only [Act.put, List.setIfInBounds_toArray, List.set_cons_zero, List.set_cons_succ]))); (refine' head_val ?dw8 ?de8 ?dr8 ?dh8; (case' dw8 => rfl); (case' de8 => (first | exact fun _ _ _ => trivial | (intro t ht w; cases ht; simp [upE]))); (case' dr8 => (intro w' hw' _; go_simp; with_reducible rfl)); (case' dh8 => (try simp only [Act.put, List.setIfInBounds_toArray, List.set_cons_zero, List.set_cons_succ])))
    (refine' head_newC (cs := #[.int .i64 0, .string ByteArray.empty]) rfl rfl (fun _ => by kernel_rfl) ?_; intro gf; try simp only [Act.put, List.setIfInBounds_toArray, List.set_cons_zero, List.set_cons_succ])
    refine head_nil ?_
    intro w2 hb hE
    replace HO := hid (own_grow HO.out hb)
    replace HG7 := hid (grow_block HG7.out hb)
    replace HG4 := hid (grow_block HG4.out hb)
    replace HB := hid (Grow.trans HB.out hb)
    clear hb
    obtain ⟨hgf, hgc⟩ := celNew_at (hE 8)
    have FL := hid (Nat.le_trans HBS.out hgf)
    have nHG7_F := Nat.lt_of_lt_of_le h7s.out hgf
    have nHG4_F := Nat.lt_of_lt_of_le h4s.out hgf
    have nHO_F := fun k hk => Nat.ne_of_lt (Nat.lt_of_lt_of_le (hos.out k hk) hgf)
    have F := hid hgc
    clear hE hgf hgc
    go_wp2_with (first | (refine store_block 108 _ _ gf 0 ([.int .i64 fk, .string (bs fp)]) ([.int .i64 0, .string (bs [])]) ([.int .i64 fk, .string (bs fp)]) 108 rfl rfl rfl rfl rfl F.out (infoF25 (fk, fp)) (by simp) (oneFm (fk, fp)) rfl ?_) | fail)
    intro w3 hW hgr hbel
    replace HG7 := hid (blk_other' hgr HG7.out (fun e => by have := Option.some.inj e; omega))
    replace HG4 := hid (blk_other' hgr HG4.out (fun e => by have := Option.some.inj e; omega))
    replace HO := hid ((fr_grown (D := fun k => k = gf) hgr (fun k hk => .inl (Option.some.inj hk).symm)).own HO.out nHO_F)
    replace HB := hid (show Grow w w3 from hbel _ _ HB.out FL.out)
    replace F := hid (show w3.heap[gf]? = some (.cells ([.int .i64 fk, .string (bs fp)] : List Value).toArray 108 (0, 0)) from hW)
    clear hW hgr hbel
    by_cases hn : oneF (S.drop e) c = none
    · have hT := HOT.out
      rw [hn] at hT
      simp only [Prod.mk.injEq] at hT
      obtain ⟨rfl, rfl, rfl⟩ := hT
      have HR := hid (scanAt_none HAT.out hn)
      clear hn HOT
      have hz0 : (((0 : Nat) : Int) == 0) = true := rfl
      go_wp2_with fail
      (refine' wp_region_head 5 1 [_, _, _, _, _] rfl (by kernel_rfl) (by kernel_rfl) ?hreg9; case' hreg9 => simp only [List.take_succ_cons, List.take_zero, List.zip_cons_cons, List.zip_nil_right, List.drop_succ_cons, List.drop_zero, List.drop_nil])
      (refine' head_val ?dw10 ?de10 ?dr10 ?dh10; (case' dw10 => rfl); (case' de10 => (first | exact fun _ _ _ => trivial | (intro t ht w; cases ht; simp [upE]))); (case' dr10 => (intro w' hw' _; go_simp; with_reducible rfl)); (case' dh10 => (try simp only [Act.put, List.setIfInBounds_toArray, List.set_cons_zero, List.set_cons_succ]))); (refine' head_val ?dw11 ?de11 ?dr11 ?dh11; (case' dw11 => rfl); (case' de11 => (first | exact fun _ _ _ => trivial | (intro t ht w; cases ht; simp [upE]))); (case' dr11 => (intro w' hw' _; go_simp; with_reducible rfl)); (case' dh11 => (try simp only [Act.put, List.setIfInBounds_toArray, List.set_cons_zero, List.set_cons_succ])))
      (refine' head_loadId (x := _) rfl ?_ rfl rfl HG7.out (HC.out) ?_; (first | exact fun _ _ _ => trivial | (intro t ht w; cases ht; simp [upE])); try simp only [Act.put, List.setIfInBounds_toArray, List.set_cons_zero, List.set_cons_succ])
      (refine' head_val ?dw12 ?de12 ?dr12 ?dh12; (case' dw12 => rfl); (case' de12 => (first | exact fun _ _ _ => trivial | (intro t ht w; cases ht; simp [upE]))); (case' dr12 => (intro w' hw' _; go_simp; with_reducible rfl)); (case' dh12 => (try simp only [Act.put, List.setIfInBounds_toArray, List.set_cons_zero, List.set_cons_succ]))); (refine' head_val ?dw13 ?de13 ?dr13 ?dh13; (case' dw13 => rfl); (case' de13 => (first | exact fun _ _ _ => trivial | (intro t ht w; cases ht; simp [upE]))); (case' dr13 => (intro w' hw' _; go_simp; with_reducible rfl)); (case' dh13 => (try simp only [Act.put, List.setIfInBounds_toArray, List.set_cons_zero, List.set_cons_succ])))
      refine head_nil ?_
      intro w4 hb _
      replace HO := hid (own_grow HO.out hb)
      replace HG7 := hid (grow_block HG7.out hb)
      replace HG4 := hid (grow_block HG4.out hb)
      replace HB := hid (Grow.trans HB.out hb)
      replace F := hid (grow_block F.out hb)
      clear hb
      go_wp2_with (first | (refine op_storeId (l := c) rfl rfl rfl rfl rfl HG4.out (by rfl) HC.out ?_) | fail)
      intro w6 hW hgr hbel
      have HO6 := hid ((fr_grown (D := fun k => k = w.heap.size) hgr (fun k hk => .inl (Option.some.inj hk).symm)).own HO.out (fun k hk e => own_ne_blk HO.out HG4.out (by decide) (by rw [hk, e])))
      have HB6 := hid (show Grow w w6 from hbel _ _ HB.out HL4.out)
      have HG6 := hid hW
      clear hgr hbel hW
      go_wp2_with fail
      refine bodyPost_ret (results_ttc rfl _ _ w.heap.size _ _ _ _ rfl HG6.out Try.underlying25 rfl (by rw [szId]; simp [u8s_length, HC.out])) rfl ?_
      rw [HR.out]
      exact ⟨_, rfl, HO6.out, HB6.out⟩
    · skip
      obtain ⟨⟨k, p, m⟩, hsome⟩ := Option.ne_none_iff_exists'.1 hn
      have hT := HOT.out
      rw [hsome] at hT
      simp only [Prod.mk.injEq] at hT
      obtain ⟨rfl, rfl, rfl⟩ := hT
      have hat := scanAt_some HAT.out hsome
      have HP := hid (oneF_some hsome).2.1
      have HNL := hid (nextL_length c k fp)
      have HNX := hid (fun w => next25 c fp k HC.out (show fp.length ≤ 4194304 from HP.out) w)
      have HLN := hid (scanAt_len HAT.out)
      generalize nextL c k fp = N at *
      have HA2 := hid hat.1
      have hm2 := hat.2
      have hem := hat.1.1
      have hz0 : ((fn : Int) == 0) = false := by simp; omega
      have hs9 := HS.out
      have wep : IntKind.i64.wrap ((e : Int) + (fn : Int)) = (e : Int) + (fn : Int) := by simp [IntKind.wrap, IntKind.signed, IntKind.bits]; omega
      have HSZ := hid (show w.heap.size ≤ _ from HB.out.size)
      clear hn hsome HOT hat hs9
      go_wp2_with (first | (refine opG_loadB rfl rfl rfl F.out Try.underlying108 rfl rfl ?_) | (refine op_appOwn (n := l.length) (m := 1) (B := w.heap.size) (news := [.int .i64 (k.toNat : Int), .string (bs fp)]) rfl rfl Try.underlying28 infoF25z rfl (by decide) rfl rfl rfl (slF _ _ _) (fun h => by cases h) oneFr (own_grow HO.out (grow_alloc _ _)) (Nat.le_trans HSZ.out (grow_alloc _ _).size) (by have := HLN.out; have := HS.out; omega) (by have := HLN.out; have := HS.out; omega) ?_) | fail)
      intro v1 wb ho1 hg1 hm1
      have hga := grow_alloc_of HB.out (Obj.cells #[.int .i64 (k.toNat : Int), .string (bs fp)] 108)
      have HB1 := hid (show Grow w wb from Below.trans (show Below w.heap.size w _ from Grow.trans HB.out hga) ((fr_grown (D := fun k => _) hg1 (fun k hk => .inl hk)).below (fun k hk => (own_lt (own_grow HO.out hga) hk).1) (Nat.le_trans HSZ.out hga.size)))
      have HG71 := hid (blk_other' hg1 (grow_block HG7.out hga) (own_ne_blk (own_grow HO.out hga) (grow_block HG7.out hga) (by decide)))
      have HG41 := hid (blk_other' hg1 (grow_block HG4.out hga) (own_ne_blk (own_grow HO.out hga) (grow_block HG4.out hga) (by decide)))
      have HF1 := hid (blk_other' hg1 (grow_block F.out hga) (fun e => nHO_F _ e rfl))
      have HO1 := hid ho1
      clear ho1 hg1 hm1 hga HO HG7 HG4 F HB
      go_wp2_with (first | (refine op_loadId rfl rfl rfl HG71.out HC.out ?_) | (refine opG_loadB rfl rfl rfl HF1.out Try.underlying108 rfl rfl ?_) | fail)
      refine (HNX.out _).mono ?_
      rintro _ wc ⟨rfl, hb⟩
      replace HO1 := hid (own_grow HO1.out hb)
      replace HG71 := hid (grow_block HG71.out hb)
      replace HG41 := hid (grow_block HG41.out hb)
      replace HF1 := hid (grow_block HF1.out hb)
      replace HB1 := hid (Grow.trans HB1.out hb)
      clear hb
      go_wp2_with (first | (refine op_storeId (l := N) rfl rfl rfl rfl rfl HG71.out HC.out HNL.out ?_) | fail)
      intro wd hW hgr hbel
      have HO2 := hid ((fr_grown (D := fun k => k = g7) hgr (fun k hk => .inl (Option.some.inj hk).symm)).own HO1.out (fun k hk e => own_ne_blk HO1.out HG71.out (by decide) (by rw [hk, e])))
      have HG42 := hid (blk_other' hgr HG41.out (fun e => HN47.out (Option.some.inj e).symm))
      have HB2 := hid (show Grow w wd from hbel _ _ HB1.out HL7.out)
      have HG72 := hid hW
      clear hgr hbel hW HO1 HG71 HG41 HF1 HB1
      go_wp2_with fail
      go_roundg (S.length + 1 - (e + fn))
      case rel => exact ⟨l ++ [(k, fp)], N, e + fn, rfl, by go_num, hid (by rw [frCells_snoc, List.length_append]; exact HO2.out), HG72, HG42, HA2, HB2⟩
      case measure => omega
end Go.Proofs.Ytabkaflccaklhaa
