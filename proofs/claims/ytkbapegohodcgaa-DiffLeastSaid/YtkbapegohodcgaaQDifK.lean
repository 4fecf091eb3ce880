/- The law DiffLeast. -/
import Derived.Test.YtkbapegohodcgaaQDifJ
import Derived.Test.YtkbapegohodcgaaQRowH
set_option linter.unusedSimpArgs false
set_option linter.unusedVariables false
namespace Go.Proofs.Ytkbapegohodcgaa
open Go.RowKit
open Go.Qk hiding rotr b4
set_option maxHeartbeats 4000000
set_option maxRecDepth 100000
def toHk (x : HkArg) : Dif.Hk ByteArray := ⟨x.v.pos.toNat, x.o, x.n⟩
theorem applyD_some {l r : List ByteArray} {p : Int} {o nw : List ByteArray} (h : applyD l p o nw = some r) : linesB l = true ∧ linesB o = true ∧ linesB nw = true ∧ 0 ≤ p ∧ p.toNat ≤ l.length ∧ fitB l p.toNat o = true ∧ r = l.take p.toNat ++ nw ++ l.drop (p.toNat + o.length) ∧ r.length ≤ 1000 := by
  unfold applyD at h
  split at h
  · rename_i hc
    obtain ⟨h1, h2, h3, h4⟩ := hc
    simp only [Bool.and_eq_true] at h1
    have h5 := h1.2
    unfold hkRightB at h5
    simp only [Bool.and_eq_true, decide_eq_true_eq] at h5
    cases h
    have hfit := h3
    unfold fitB at hfit
    simp only [decide_eq_true_eq] at hfit
    have hl := congrArg List.length hfit
    simp at hl
    refine ⟨h1.1, h5.2.2.1, h5.2.2.2.1, h5.1, h2, h3, rfl, ?_⟩
    simp
    omega
  · cases h
theorem linesB_apply {l r : List ByteArray} {p : Int} {o nw : List ByteArray} (h : applyD l p o nw = some r) : linesB r = true := by
  obtain ⟨h1, _, h3, _, _, _, rfl, h8⟩ := applyD_some h
  unfold linesB at h1 h3 ⊢
  simp only [Bool.and_eq_true, List.all_eq_true, decide_eq_true_eq] at h1 h3 ⊢
  refine ⟨fun x hx => ?_, h8⟩
  rcases List.mem_append.1 hx with hx | hx
  · rcases List.mem_append.1 hx with hx | hx
    · exact h1.1 x (List.mem_of_mem_take hx)
    · exact h3.1 x hx
  · exact h1.1 x (List.mem_of_mem_drop hx)
theorem apply_hk {l r : List ByteArray} {x : HkArg} (h : applyD l x.v.pos x.o x.n = some r) : Dif.hkFits l (toHk x) ∧ Dif.hkApply l (toHk x) = r := by
  obtain ⟨_, _, _, _, h5, h6, rfl, _⟩ := applyD_some h
  unfold fitB at h6
  simp only [decide_eq_true_eq] at h6
  exact ⟨⟨h5, h6⟩, rfl⟩
theorem sizeV_hk (l : List HkArg) (h : ∀ x ∈ l, x.o.length = x.v.n ∧ x.n.length = x.v.m) : sizeV (l.map HkArg.v) = Dif.hksSize (l.map toHk) := by
  induction l with
  | nil => rfl
  | cons a t ih =>
    have h1 := h a List.mem_cons_self
    have h2 := ih (fun x hx => h x (List.mem_cons_of_mem _ hx))
    have e1 : sizeV ((a :: t).map HkArg.v) = a.v.n + a.v.m + sizeV (t.map HkArg.v) := by simp [sizeV, HkV.size]
    have e2 : Dif.hksSize ((a :: t).map toHk) = a.o.length + a.n.length + Dif.hksSize (t.map toHk) := by simp [Dif.hksSize, Dif.hkSize, toHk]
    rw [e1, e2, h2, h1.1, h1.2]
theorem law12Long1 (A : Option Addr) (n c : Nat) (xs : List ByteArray) (w w0 : World) (g : Nat) (hx : StrRow w A xs) (hn : xs.length = n) (hsa : ∀ s ∈ xs, s.size ≤ 9223372036854775807) (hg : Grow w w0) (h : w0.heap[g]? = some (.cells #[.slice A n c] 22 (0, 0))) :
    Calls Try.prog 49 #[.slice (some ⟨g, 0, none⟩) 1 1] w0 fun e w' => e = .returned (.bool (longB xs)) ∧ Grow w w' := by
  subst hn
  refine (law12Long ⟨g, 0, none⟩ 1 1 [xs] w0 rfl (by omega) (fun k hk => ?_)).mono ?_
  · obtain rfl : k = 0 := by omega
    exact ⟨A, c, blk_cell h rfl, hx.grow hg, hsa⟩
  · rintro e w' ⟨rfl, hb⟩
    exact ⟨by simp, hg.trans hb⟩
theorem le_sum_mem : ∀ {l : List Nat} {a : Nat}, a ∈ l → a ≤ l.sum
  | [], _, h => by cases h
  | b :: t, a, h => by
    rw [List.sum_cons]
    rcases List.mem_cons.1 h with rfl | h
    · omega
    · have := le_sum_mem h; omega
theorem hks_take_map (l : List HkArg) (k : Nat) (h : k < l.length) : (l.map toHk).take (k + 1) = (l.map toHk).take k ++ [toHk (l.getD k hka0)] := by
  rw [List.take_succ_eq_append_getElem (by simpa using h)]
  simp [h]
theorem diffLeastW (A D : Option Addr) (n m c d : Nat) (xs : List ByteArray) (l : List HkArg) (w : World) (hx : StrRow w A xs) (hl : HkArgs w D l) (hn : xs.length = n) (hm : l.length = m) (hsa : ∀ s ∈ xs, s.size ≤ 9223372036854775807) :
    Calls Try.prog 7 #[.slice A n c, .slice D m d] w fun e w' => e = .returned (.bool true) ∧ Below w.heap.size w w' := by
  have HX := hid hx
  have HLA := hid hl
  have HN := hid hn
  have HM := hid hm
  have HSA := hid hsa
  have n9 : n ≤ 9223372036854775807 := by have := hx.1; omega
  have m9 : m ≤ 9223372036854775807 := by have := hl.row.1; simp at this; omega
  clear hx hl hn hm hsa
  go_enter Try.func7, Try.ntmps7
  have HB := hid (grow_refl w)
  go_wp2_with fail
  have h0 := heap_alloc_new w (.cells #[Value.slice A n c] 22)
  have hb0 := grow_alloc w (.cells #[Value.slice A n c] 22)
  generalize w.alloc (.cells #[Value.slice A n c] 22) = w0 at *
  refine (law12Long1 A n c xs w w0 _ HX.out HN.out HSA.out hb0 h0).mono ?_
  rintro _ w1 ⟨rfl, hb⟩
  have HB1 := hid hb
  clear h0 hb0 hb HB
  by_cases hlg : longB xs = true
  · rw [hlg]
    go_wp2_with fail
    refine (awake12 _).mono ?_
    rintro _ w2 ⟨rfl, hb⟩
    have HBZ := hid (Grow.trans HB1.out hb)
    clear hb
    go_wp2_with fail
    go_ret
    exact ⟨rfl, HBZ.out⟩
  have hlg2 : longB xs = false := by simpa using hlg
  rw [hlg2]
  have HSM := hid (lines_small hlg2)
  clear hlg hlg2
  by_cases hm8 : 8 < m
  · have hm8' : (8 : Int) < (m : Int) := by omega
    go_wp2_with fail
    refine (awake12 _).mono ?_
    rintro _ w2 ⟨rfl, hb⟩
    have HBZ := hid (Grow.trans HB1.out hb)
    clear hb
    go_wp2_with fail
    go_ret
    exact ⟨rfl, HBZ.out⟩
  have hm8' : decide ((8 : Int) < (m : Int)) = false := by simp; omega
  go_wp2_with fail
  refine (refLines A n c xs _ (HX.out.grow HB1.out) HN.out HSA.out).mono ?_
  rintro _ w2 ⟨rfl, hb⟩
  have HB2 := hid (Grow.trans HB1.out hb)
  clear hb HB1
  by_cases hl1 : linesB xs = true
  case neg =>
    have hl1' : linesB xs = false := by simpa using hl1
    rw [hl1']
    clear hl1 hl1'
    go_wp2_with fail
    refine (awake12 _).mono ?_
    rintro _ w3 ⟨rfl, hb⟩
    have HBZ := hid (Grow.trans HB2.out hb)
    clear hb
    go_wp2_with fail
    go_ret
    exact ⟨rfl, HBZ.out⟩
  rw [hl1]
  have HL1 := hid hl1
  clear hl1
  go_wp2_with fail
  have HST := hid (show StrRow w2 A xs from HX.out.grow HB2.out)
  obtain ⟨L, hL⟩ : ∃ L, L = l.map toHk := ⟨_, rfl⟩
  have HLL := hid hL
  clear hL
  go_loopg [5, 6, 30] (m + 1) (fun z v s i wr => ∃ (k nn cc : Nat) (N : Option Addr) (ns : List ByteArray), k ≤ m ∧ nn ≤ 1000 ∧ z = m + 1 - k ∧ i = .int .i64 (k : Int) ∧ v = .slice N nn cc ∧ s = .int .i64 (Dif.hksSize (L.take k) : Int) ∧ Hid (StrRow wr N ns) ∧ Hid (ns.length = nn) ∧ Hid (linesB ns = true) ∧ Hid (ns = Dif.hkAll xs (L.take k)) ∧ Hid (Dif.hkFit xs (L.take k)) ∧ Hid (Dif.hksSize (L.take k) ≤ 2000 * k) ∧ Hid (Grow w wr))
  case atStart => exact ⟨0, n, c, A, xs, by omega, by have := linesB_len HL1.out; have := HN.out; omega, by omega, rfl, rfl, rfl, HST, HN, HL1, hid rfl, hid trivial, hid (Nat.le_refl _), HB2⟩
  case round =>
    clear HST HB2
    obtain ⟨k, nn, cc, N, ns, hk, hnn, hz, rfl, rfl, rfl, HST, HNL, HLN, HNS, HFT, HSB, HB⟩ := hrel
    have k0 : (0 : Int) ≤ (k : Int) := by omega
    by_cases hlt : k < m
    · have k1 : (k : Int) < (m : Int) := by omega
      have hlen : k < (l.map HkArg.v).length := by rw [List.length_map, HM.out]; exact hlt
      obtain ⟨ad, rfl, hc⟩ := (HLA.out.row.grow HB.out).at_ k hlen
      have HTK := hid (show L.take (k + 1) = L.take k ++ [toHk (l.getD k hka0)] by rw [HLL.out]; exact hks_take_map l k (by rw [HM.out]; exact hlt))
      have hx1 := HLA.out.is (l.getD k hka0) (by simp [show k < l.length by rw [HM.out]; exact hlt])
      have e1 : (l.map HkArg.v).getD k hkv0 = (l.getD k hka0).v := by simp [show k < l.length by rw [HM.out]; exact hlt]
      rw [e1] at hc
      generalize l.getD k hka0 = y at *
      obtain ⟨⟨p, a, n1, c1, b, n2, c2⟩, ys, zs⟩ := y
      obtain ⟨q1, q2, q3, q4, q5, q6, q7⟩ := hx1
      dsimp only at q1 q2 q3 q4 q5 q6 q7 hc
      have HC := hid hc
      have H1 := hid (q1.grow HB.out)
      have H2 := hid q2
      have H3 := hid q3
      have H4 := hid (q4.grow HB.out)
      have H5 := hid q5
      have H6 := hid q6
      have hn19 : n1 ≤ 9223372036854775807 := by have := q1.1; omega
      have hn29 : n2 ≤ 9223372036854775807 := by have := q4.1; omega
      clear q1 q2 q3 q4 q5 q6 q7 hc e1 hlen
      go_wp2_with (first | (refine op_loadHk ⟨p, a, n1, c1, b, n2, c2⟩ rfl rfl rfl HC.out ?_) | (refine op_allocstoreB (z := [.int .i64 0, .slice none 0 0, .slice none 0 0]) (cs := HkV.cells ⟨p, a, n1, c1, b, n2, c2⟩) rfl rfl rfl rfl rfl rfl (fun _ => by kernel_rfl) (fun _ => rfl) (fun _ => rfl) rfl (infoHunkS _) (oneHk _) ?_) | fail)
      intro g5 w5 hgl hgu hb hr
      have HG5 := hid (show w5.heap[g5]? = some (.cells #[.int .i64 p, .slice a n1 c1, .slice b n2 c2] 77 (0, 0)) from hr)
      have HB5 := hid (Grow.trans HB.out hb)
      replace HST := hid (HST.out.grow hb)
      replace H1 := hid (H1.out.grow hb)
      replace H4 := hid (H4.out.grow hb)
      clear hgl hgu hb hr HC HB
      have x0 := blk_cell (i := 0) (v := Value.int .i64 p) HG5.out rfl
      have x1 := blk_cell (i := 1) (v := Value.slice a n1 c1) HG5.out rfl
      have x2 := blk_cell (i := 2) (v := Value.slice b n2 c2) HG5.out rfl
      go_wp2_with fail
      have h0 := heap_alloc_new w5 (.cells #[Value.slice a n1 c1, Value.slice b n2 c2] 22)
      have hb0 := grow_alloc w5 (.cells #[Value.slice a n1 c1, Value.slice b n2 c2] 22)
      generalize w5.alloc (.cells #[Value.slice a n1 c1, Value.slice b n2 c2] 22) = w6 at *
      refine (law12Long2 a b n1 n2 c1 c2 ys zs w5 w6 _ H1.out H4.out H2.out H5.out H3.out H6.out hb0 h0).mono ?_
      rintro _ w7 ⟨rfl, hb⟩
      have HB7 := hid (Grow.trans HB5.out hb)
      replace HST := hid (HST.out.grow hb)
      replace H1 := hid (H1.out.grow hb)
      replace H4 := hid (H4.out.grow hb)
      have HG7 := hid (grow_block HG5.out hb)
      clear h0 hb0 hb HB5 HG5 x0 x1 x2
      by_cases hlg : (longB ys || longB zs) = true
      · rw [hlg]
        go_wp2_with fail
        refine (awake12 _).mono ?_
        rintro _ w8 ⟨rfl, hb⟩
        have HBZ := hid (Grow.trans HB7.out hb)
        clear hb
        go_wp2_with fail
        go_ret
        exact ⟨rfl, HBZ.out⟩
      have hlg2 : (longB ys || longB zs) = false := by simpa using hlg
      rw [hlg2]
      clear hlg hlg2
      have x0 := blk_cell (i := 0) (v := Value.int .i64 p) HG7.out rfl
      have x1 := blk_cell (i := 1) (v := Value.slice a n1 c1) HG7.out rfl
      have x2 := blk_cell (i := 2) (v := Value.slice b n2 c2) HG7.out rfl
      go_wp2_with fail
      refine (refApply p N a b n1 n2 nn c1 c2 cc ns ys zs _ HST.out H1.out H4.out HNL.out H2.out H5.out (short_of HLN.out) H3.out H6.out).mono ?_
      rintro _ w8 ⟨v8, er, rfl, hap, hb⟩
      have HB8 := hid (Grow.trans HB7.out hb)
      have HG8 := hid (grow_block HG7.out hb)
      clear hb HB7 HG7 x0 x1 x2
      cases hapd : applyD ns p ys zs with
      | none =>
        rw [hapd] at hap
        obtain ⟨hne, rfl⟩ := hap
        have hne' : (er == 0) = false := by simpa using hne
        clear hapd
        go_wp2_with fail
        refine (awake12 _).mono ?_
        rintro _ w9 ⟨rfl, hb⟩
        have HBZ := hid (Grow.trans HB8.out hb)
        clear hb
        go_wp2_with fail
        go_ret
        exact ⟨rfl, HBZ.out⟩
      | some rr =>
        rw [hapd] at hap
        obtain ⟨rfl, hown⟩ := hap
        obtain ⟨N', c', rfl, hrow⟩ := strRow_own hown
        have HRR := hid hrow
        have hrl := linesB_len (linesB_apply hapd)
        have HRL := hid (linesB_apply hapd)
        have HLB := hid (applyD_some hapd)
        have HAH := hid (apply_hk (x := ⟨⟨p, a, n1, c1, b, n2, c2⟩, ys, zs⟩) hapd)
        obtain ⟨q, hq⟩ : ∃ q, q = rr.length := ⟨_, rfl⟩
        rw [← hq] at hrl ⊢
        have HQ := hid hq
        clear hown hrow hapd hq
        by_cases h60 : 60 < q
        · have h60' : (60 : Int) < (q : Int) := by omega
          go_wp2_with fail
          refine (awake12 _).mono ?_
          rintro _ w9 ⟨rfl, hb⟩
          have HBZ := hid (Grow.trans HB8.out hb)
          clear hb
          go_wp2_with fail
          go_ret
          exact ⟨rfl, HBZ.out⟩
        have h60' : ¬ (60 : Int) < (q : Int) := by omega
        have x1 := blk_cell (i := 1) (v := Value.slice a n1 c1) HG8.out rfl
        have x2 := blk_cell (i := 2) (v := Value.slice b n2 c2) HG8.out rfl
        have l1 := linesB_len HLB.out.2.1
        have l2 := linesB_len HLB.out.2.2.1
        rw [H2.out] at l1
        rw [H5.out] at l2
        have HSZ2 := hid (show Dif.hksSize (L.take (k + 1)) = Dif.hksSize (L.take k) + (n1 + n2) by
          rw [HTK.out, Dif.hksSize_append]
          have : Dif.hksSize [toHk ⟨⟨p, a, n1, c1, b, n2, c2⟩, ys, zs⟩] = ys.length + zs.length := by simp [Dif.hksSize, Dif.hkSize, toHk]
          rw [this, H2.out, H5.out])
        have HNS2 := hid (show rr = Dif.hkAll xs (L.take (k + 1)) by rw [HTK.out, Dif.hkAll_snoc, ← HNS.out]; exact HAH.out.2.symm)
        have HFT2 := hid (show Dif.hkFit xs (L.take (k + 1)) by rw [HTK.out, Dif.hkFit_snoc, ← HNS.out]; exact ⟨HFT.out, HAH.out.1⟩)
        have sb := HSB.out
        have HSB2 := hid (show Dif.hksSize (L.take (k + 1)) ≤ 2000 * (k + 1) by rw [HSZ2.out]; omega)
        generalize hS : Dif.hksSize (L.take k) = S at *
        have w1' : IntKind.i64.wrap ((n1 : Int) + (n2 : Int)) = (n1 : Int) + (n2 : Int) := by simp [IntKind.wrap, IntKind.signed, IntKind.bits]; omega
        have w2' : IntKind.i64.wrap ((S : Int) + ((n1 : Int) + (n2 : Int))) = (S : Int) + ((n1 : Int) + (n2 : Int)) := by simp [IntKind.wrap, IntKind.signed, IntKind.bits]; omega
        clear HG8 HAH HLB H1 H4 H2 H3 H5 H6 HTK HNS HFT HSB hS
        go_wp2_with fail
        go_roundg (m + 1 - (k + 1))
        case rel => exact ⟨k + 1, q, c', N', rr, by omega, by omega, rfl, by go_num, rfl, by rw [HSZ2.out]; go_num, HRR, hid HQ.out.symm, HRL, HNS2, HFT2, HSB2, HB8⟩
        case measure => omega
    · obtain rfl : k = m := by omega
      rw [List.take_of_length_le (by rw [HLL.out, List.length_map, HM.out]; omega)] at HNS HFT HSB ⊢
      have HZV := hid (show sizeV (l.map HkArg.v) = Dif.hksSize L by rw [HLL.out]; exact sizeV_hk l (fun x hx => by obtain ⟨_, b, _, _, e, _⟩ := HLA.out.is x hx; exact ⟨b, e⟩))
      have HLE := hid (show Dif.hksSize (Dif.diffL ByteArray.empty xs ns) ≤ Dif.hksSize L by rw [HNS.out]; exact Dif.least_diff ByteArray.empty xs L HFT.out)
      have HBD := hid (diffL_bound xs ns (linesB_len HL1.out) (linesB_len HLN.out))
      have sb := HSB.out
      have HSS := hid (show ∀ j, j ≤ k → sizeV ((l.map HkArg.v).take j) ≤ 1000000 from fun j hj => by
        have e1 : sizeV ((l.map HkArg.v).take j) + sizeV ((l.map HkArg.v).drop j) = sizeV (l.map HkArg.v) := by
          unfold sizeV
          conv => rhs; rw [← List.take_append_drop j (l.map HkArg.v), List.map_append, List.sum_append]
        have := HZV.out
        have := HSB.out
        omega)
      have HPP := hid (show ∀ h ∈ l.map HkArg.v, h.n ≤ 1000000 ∧ h.m ≤ 1000000 from fun h hh => by
        have e1 : h.size ≤ sizeV (l.map HkArg.v) := by
          unfold sizeV
          exact le_sum_mem (List.mem_map.2 ⟨h, hh, rfl⟩)
        have := HZV.out
        have := HSB.out
        unfold HkV.size at e1
        omega)
      go_wp2_with fail
      refine (diffOfR A N n nn c cc xs ns _ (HX.out.grow HB.out) HST.out HN.out HNL.out HSA.out (short_of HLN.out) (by rw [HL1.out, HLN.out]; rfl)).mono ?_
      rintro _ w4 ⟨A1, c1, hs1, rfl, hr1, hb⟩
      have HR1 := hid hr1
      have HB4 := hid (Grow.trans HB.out hb)
      clear hb hr1 HB HST
      have HZ1 := hid (fun w1 (hg : Grow w4 w1) => diffSizeL A1 _ c1 hs1 _ w1 (HR1.out.grow hg) rfl (by have := HBD.out; omega))
      have HZ2 := hid (fun w1 (hg : Grow w w1) => diffSize D k d (l.map HkArg.v) w1 (HLA.out.row.grow hg) (by rw [List.length_map]; exact HM.out) HSS.out HPP.out)
      rw [HZV.out] at HZ2
      have hz1 := HLE.out
      clear HSS HPP HZV HR1 HBD HLE HNS HFT HSB HX HNL HLN HL1 HLL
      generalize Dif.hksSize L = z at *
      generalize (Dif.diffL ByteArray.empty xs ns).length = q1 at *
      generalize Dif.hksSize (Dif.diffL ByteArray.empty xs ns) = y at *
      have hyz : (y : Int) ≤ (z : Int) := by omega
      go_wp2_with fail
      refine (HZ1.out _ (grow_refl _)).mono ?_
      rintro _ w5 ⟨rfl, hb5⟩
      have HB5 := hid (Grow.trans HB4.out hb5)
      clear hb5
      go_wp2_with fail
      refine (HZ2.out _ HB5.out).mono ?_
      rintro _ w6 ⟨rfl, hb6⟩
      have HB6 := hid (Grow.trans HB5.out hb6)
      clear hb6
      go_wp2_with fail
      refine (awake12 _).mono ?_
      rintro _ w7 ⟨rfl, hb⟩
      have HB7 := hid (Grow.trans HB6.out hb)
      clear hb
      go_wp2_with fail
      go_ret
      exact ⟨rfl, HB7.out⟩
end Go.Proofs.Ytkbapegohodcgaa
