/- quitclaimref11.Apply: contract. -/
import Derived.Test.YtkbapegohodcgaaQDifI
set_option linter.unusedSimpArgs false
set_option linter.unusedVariables false
namespace Go.Proofs.Ytkbapegohodcgaa
open Go.RowKit
open Go.Qk hiding rotr b4
set_option maxHeartbeats 4000000
set_option maxRecDepth 100000
def fitB (l : List ByteArray) (q : Nat) (o : List ByteArray) : Bool := decide ((l.drop q).take o.length = o)
/-- What Apply makes; none: an error. -/
def applyD (l : List ByteArray) (p : Int) (o nw : List ByteArray) : Option (List ByteArray) :=
  if (linesB l && hkRightB p o nw) = true ∧ p.toNat ≤ l.length ∧ fitB l p.toNat o = true ∧ l.length - o.length + nw.length ≤ 1000 then some (l.take p.toNat ++ nw ++ l.drop (p.toNat + o.length)) else none
def ApR (w : World) (B : Nat) (v : Value) (er : Int) : Option (List ByteArray) → Prop
  | some r => er = 0 ∧ w.ownsRow B 9 1 v r.length (r.map Value.string)
  | none => er ≠ 0 ∧ v = .slice none 0 0
theorem fit_at {l o : List ByteArray} {q : Nat} (h : fitB l q o = true) (i : Nat) (hi : i < o.length) : q + i < l.length ∧ l.getD (q + i) ByteArray.empty = o.getD i ByteArray.empty := by
  unfold fitB at h
  simp only [decide_eq_true_eq] at h
  have hl := congrArg List.length h
  simp at hl
  have e : ((l.drop q).take o.length)[i]? = o[i]? := by rw [h]
  rw [List.getElem?_take, if_pos hi, List.getElem?_drop] at e
  refine ⟨by omega, ?_⟩
  simp only [List.getD_eq_getElem?_getD, e]
theorem fit_of {l o : List ByteArray} {q : Nat} (h : ∀ i, i < o.length → q + i < l.length ∧ l.getD (q + i) ByteArray.empty = o.getD i ByteArray.empty) : fitB l q o = true := by
  unfold fitB
  simp only [decide_eq_true_eq]
  have hq : o.length = 0 ∨ q + (o.length - 1) < l.length := by
    rcases Nat.eq_zero_or_pos o.length with e | e
    · exact .inl e
    · exact .inr (h (o.length - 1) (by omega)).1
  apply List.ext_getElem
  · simp; omega
  · intro i h1 h2
    obtain ⟨h3, h4⟩ := h i h2
    simp [h3, h2] at h4
    simp [h4]
theorem strSnoc (xs : List ByteArray) (k : Nat) (h : k < xs.length) : (xs.take (k + 1)).map Value.string = (xs.take k).map Value.string ++ [Value.string (xs.getD k ByteArray.empty)] := by
  rw [List.take_succ_eq_append_getElem h, List.map_append]
  simp [h]
theorem below_own {w w' : World} {B : Nat} {e : TypeId} {sz n : Nat} {v : Value} {xs : List Value} (h : w.ownsRow B e sz v n xs) (hg : w.grownBy w' v.ownBlock) (hB : B ≤ w.heap.size) : Below B w w' :=
  (fr_grown (D := fun k => v.ownBlock = some k) hg (fun k hk => .inl hk)).below (fun k hk => (own_lt h hk).1) hB
theorem refApply (p : Int) (L A B : Option Addr) (n m k c d f : Nat) (l xs ys : List ByteArray) (w : World) (hl : StrRow w L l) (hx : StrRow w A xs) (hy : StrRow w B ys) (hk : l.length = k) (hn : xs.length = n) (hm : ys.length = m) (hsl : ∀ s ∈ l, s.size ≤ 9223372036854775807) (hsa : ∀ s ∈ xs, s.size ≤ 9223372036854775807) (hsb : ∀ s ∈ ys, s.size ≤ 9223372036854775807) :
    Calls Try.prog 57 #[.slice L k f, .agg #[.int .i64 p, .slice A n c, .slice B m d]] w fun e w' => ∃ v er, e = .returned (.tuple #[v, .int .i64 er]) ∧ ApR w' w.heap.size v er (applyD l p xs ys) ∧ Below w.heap.size w w' := by
  have HL := hid hl
  have HX := hid hx
  have HY := hid hy
  have HK := hid hk
  have HN := hid hn
  have HM := hid hm
  have HSL := hid hsl
  have HRT := hid (fun w' (hg : Grow w w') => refHkRight p A B n m c d xs ys w' (hx.grow hg) (hy.grow hg) hn hm hsa hsb)
  have k9 : (k : Int) ≤ 9223372036854775807 := by have := hl.1; omega
  have n9 : (n : Int) ≤ 9223372036854775807 := by have := hx.1; omega
  have m9 : (m : Int) ≤ 9223372036854775807 := by have := hy.1; omega
  clear hl hx hy hk hn hm hsl hsa hsb
  have HRE := hid (show ∀ r : Option (List ByteArray), r = applyD l p xs ys → applyD l p xs ys = r from fun r h => h.symm)
  go_enter Try.func57, Try.ntmps57
  have HB := hid (grow_refl w)
  apply wp_seq_k; intro _ _; apply wp_region_lit
  refine op_boxC (cs := #[.int .i64 p, .slice A n c, .slice B m d]) rfl rfl rfl rfl ?_
  intro gx w1 hgl hgu hb hr
  have BXL := hid (Nat.le_trans HB.out.size hgl)
  replace HB := hid (Grow.trans HB.out hb)
  have BX := hid hr; have BXU := hid hgu
  clear hr hgl hgu hb
  try simp only [Act.put, List.setIfInBounds_toArray, List.set_cons_zero, List.set_cons_succ]
  go_wp2_with fail
  refine (refLines L k f l _ (HL.out.grow HB.out) HK.out HSL.out).mono ?_
  rintro _ w2 ⟨rfl, hb⟩
  replace HB := hid (Grow.trans HB.out hb)
  replace BX := hid (grow_block BX.out hb)
  clear hb
  by_cases hl1 : linesB l = true
  case neg =>
    have hl1' : linesB l = false := by simpa using hl1
    rw [hl1']
    have HR := hid (show applyD l p xs ys = none by unfold applyD; rw [hl1']; simp)
    clear hl1 hl1'
    go_wp2_with fail
    go_ret2
    exact ⟨_, _, rfl, by rw [HR.out]; exact ⟨by decide, rfl⟩, HB.out⟩
  rw [hl1]
  have HL1 := hid hl1
  clear hl1
  have x0 := blk_cell (i := 0) (v := Value.int .i64 p) BX.out rfl
  have x1 := blk_cell (i := 1) (v := Value.slice A n c) BX.out rfl
  have x2 := blk_cell (i := 2) (v := Value.slice B m d) BX.out rfl
  go_wp2_with fail
  refine (HRT.out _ HB.out).mono ?_
  rintro _ w3 ⟨rfl, hb⟩
  clear x0 x1 x2
  replace HB := hid (Grow.trans HB.out hb)
  replace BX := hid (grow_block BX.out hb)
  clear hb
  by_cases hr1 : hkRightB p xs ys = true
  case neg =>
    have hr1' : hkRightB p xs ys = false := by simpa using hr1
    rw [hr1']
    have HR := hid (show applyD l p xs ys = none by unfold applyD; rw [hr1']; simp)
    clear hr1 hr1'
    go_wp2_with fail
    go_ret2
    exact ⟨_, _, rfl, by rw [HR.out]; exact ⟨by decide, rfl⟩, HB.out⟩
  rw [hr1]
  obtain ⟨hp0, hp1, hla, hlb, _⟩ : 0 ≤ p ∧ p ≤ 1000 ∧ linesB xs = true ∧ linesB ys = true ∧ True := by
    unfold hkRightB at hr1
    simp only [Bool.and_eq_true, decide_eq_true_eq] at hr1
    exact ⟨hr1.1, hr1.2.1, hr1.2.2.1, hr1.2.2.2.1, trivial⟩
  have HR1 := hid hr1
  have h1 := linesB_len hla
  have h2 := linesB_len hlb
  have h3 := linesB_len HL1.out
  rw [HN.out] at h1
  rw [HM.out] at h2
  rw [HK.out] at h3
  clear hr1 hla hlb
  obtain ⟨q, rfl⟩ : ∃ q : Nat, p = (q : Int) := ⟨p.toNat, by omega⟩
  have h4 : q ≤ 1000 := by omega
  have HL9 := hid (show n ≤ 1000 ∧ m ≤ 1000 ∧ k ≤ 1000 ∧ q ≤ 1000 from ⟨h1, h2, h3, h4⟩)
  have HAP := hid (show applyD l (q : Int) xs ys = if q ≤ l.length ∧ fitB l q xs = true ∧ l.length - xs.length + ys.length ≤ 1000 then some (l.take q ++ ys ++ l.drop (q + xs.length)) else none by
    unfold applyD
    rw [HL1.out, HR1.out]
    simp)
  clear hp0 hp1 HR1 HL1 HRT HRE k9 n9 m9
  have k9 : (k : Int) ≤ 1000 := by omega
  have n9 : (n : Int) ≤ 1000 := by omega
  have m9 : (m : Int) ≤ 1000 := by omega
  have q9 : (q : Int) ≤ 1000 := by omega
  have q0 : (0 : Int) ≤ (q : Int) := by omega
  clear h1 h2 h3 h4
  have x0 := blk_cell (i := 0) (v := Value.int .i64 (q : Int)) BX.out rfl
  by_cases hqk : q ≤ k
  case neg =>
    have hlt : (k : Int) < (q : Int) := by omega
    have HR := hid (show applyD l (q : Int) xs ys = none by rw [HAP.out, if_neg (by rw [HK.out]; omega)])
    go_wp2_with fail
    go_ret2
    exact ⟨_, _, rfl, by rw [HR.out]; exact ⟨by decide, rfl⟩, HB.out⟩
  have hlt : (q : Int) ≤ (k : Int) := by omega
  have hnl : decide (k < q) = false := by simp; omega
  go_wp2_with fail
  clear x0
  have HO := hid (empty_row w3 w.heap.size 9 1 HB.out.size)
  have hga := grow_alloc w3 (.cells #[] 9)
  replace HB := hid (Grow.trans HB.out hga)
  replace BX := hid (grow_block BX.out hga)
  clear hga
  generalize w3.alloc (.cells #[] 9) = w4 at *
  generalize w3.heap.size = g4 at *
  go_loopg [6, 7] (q + 1) (fun z v i wr => ∃ j : Nat, j ≤ q ∧ z = q + 1 - j ∧ i = .int .i64 (j : Int) ∧ Hid (wr.ownsRow w.heap.size 9 1 v j ((l.take j).map Value.string)) ∧ Hid (wr.heap[gx]? = some (.cells #[.int .i64 (q : Int), .slice A n c, .slice B m d] 79 (0, 0))) ∧ Hid (Grow w wr))
  case atStart => exact ⟨0, by omega, by omega, rfl, HO, BX, HB⟩
  case round =>
    clear HO BX HB BXU BXL
    obtain ⟨j, hj, hz, rfl, HO, BX, HB⟩ := hrel
    have x0 := blk_cell (i := 0) (v := Value.int .i64 (q : Int)) BX.out rfl
    have j0 : (0 : Int) ≤ (j : Int) := by omega
    by_cases hjq : j < q
    · have j1 : (j : Int) < (q : Int) := by omega
      have j2 : (j : Int) < (k : Int) := by omega
      obtain ⟨ad, rfl, hc⟩ := (HL.out.grow HB.out).at_ j (by rw [HK.out]; omega)
      have HS1 := hid (strSnoc l j (by rw [HK.out]; omega))
      generalize l.getD j ByteArray.empty = x at *
      have HSZ := hid (show w.heap.size ≤ wr.heap.size from HB.out.size)
      have hj9 : j ≤ 1000 := by omega
      go_wp2_with (first | (refine op_app1M (z := .string ByteArray.empty) rfl rfl rfl rfl rfl rfl Try.underlying22 infoS1 rfl (fun _ => rfl) (fun _ => rfl) rfl rfl HO.out HSZ.out (by omega) (by omega) ?_) | fail)
      intro sl v2 w6 ho hg hm
      have HO6 := hid (show w6.ownsRow w.heap.size 9 1 v2 (j + 1) ((l.take (j + 1)).map Value.string) by rw [HS1.out]; simp only [List.map_take] at ho ⊢; exact ho)
      have BX6 := hid (blk_other' hg BX.out (own_ne_blk HO.out BX.out (by decide)))
      have HB6 := hid (show Grow w w6 from Below.trans (show Below w.heap.size w wr from HB.out) (below_own HO.out hg HSZ.out))
      clear ho hg hm HO BX HB x0 hc
      go_wp2_with fail
      go_roundg (q + 1 - (j + 1))
      case rel => exact ⟨j + 1, by omega, rfl, by go_num, HO6, BX6, HB6⟩
      case measure => omega
    obtain rfl : j = q := by omega
    clear hjq hz hj
    go_wp2_with fail
    go_loopg [6, 8] (m + 1) (fun z v i wr => ∃ e : Nat, e ≤ m ∧ z = m + 1 - e ∧ i = .int .i64 (e : Int) ∧ Hid (wr.ownsRow w.heap.size 9 1 v (j + e) ((l.take j ++ ys.take e).map Value.string)) ∧ Hid (wr.heap[gx]? = some (.cells #[.int .i64 (j : Int), .slice A n c, .slice B m d] 79 (0, 0))) ∧ Hid (Grow w wr))
    case atStart => exact ⟨0, by omega, by omega, rfl, by simpa using HO, BX, HB⟩
    case round =>
      clear HO BX HB x0
      obtain ⟨e, he, hz, rfl, HO, BX, HB⟩ := hrel
      have x2 := blk_cell (i := 2) (v := Value.slice B m d) BX.out rfl
      have e0 : (0 : Int) ≤ (e : Int) := by omega
      by_cases hem : e < m
      · have e1 : (e : Int) < (m : Int) := by omega
        obtain ⟨ad, rfl, hc⟩ := (HY.out.grow HB.out).at_ e (by rw [HM.out]; omega)
        have HS1 := hid (strSnoc ys e (by rw [HM.out]; omega))
        generalize ys.getD e ByteArray.empty = x at *
        have HSZ := hid (show w.heap.size ≤ wr.heap.size from HB.out.size)
        have he9 : j + e ≤ 2000 := by omega
        go_wp2_with (first | (refine op_app1M (z := .string ByteArray.empty) rfl rfl rfl rfl rfl rfl Try.underlying22 infoS1 rfl (fun _ => rfl) (fun _ => rfl) rfl rfl HO.out HSZ.out (by omega) (by omega) ?_) | fail)
        intro sl v2 w6 ho hg hm
        have HO6 := hid (show w6.ownsRow w.heap.size 9 1 v2 (j + (e + 1)) ((l.take j ++ ys.take (e + 1)).map Value.string) by rw [List.map_append, HS1.out]; simp only [List.map_take, List.map_append, List.append_assoc] at ho ⊢; exact ho)
        have BX6 := hid (blk_other' hg BX.out (own_ne_blk HO.out BX.out (by decide)))
        have HB6 := hid (show Grow w w6 from Below.trans (show Below w.heap.size w wr from HB.out) (below_own HO.out hg HSZ.out))
        clear ho hg hm HO BX HB x2 hc
        go_wp2_with fail
        go_roundg (m + 1 - (e + 1))
        case rel => exact ⟨e + 1, by omega, rfl, by go_num, HO6, BX6, HB6⟩
        case measure => omega
      obtain rfl : e = m := by omega
      rw [List.take_of_length_le (l := ys) (by rw [HM.out]; omega)] at HO
      clear hem hz he
      go_wp2_with fail
      go_loopg [9] (n + 1) (fun z i wr => ∃ b : Nat, b ≤ n ∧ z = n + 1 - b ∧ i = .int .i64 (b : Int) ∧ Hid (∀ i, i < b → j + i < l.length ∧ l.getD (j + i) ByteArray.empty = xs.getD i ByteArray.empty) ∧ Hid (wr.ownsRow w.heap.size 9 1 u6 (j + e) ((l.take j ++ ys).map Value.string)) ∧ Hid (wr.heap[gx]? = some (.cells #[.int .i64 (j : Int), .slice A n c, .slice B e d] 79 (0, 0))) ∧ Hid (Grow w wr))
      case atStart => exact ⟨0, by omega, by omega, rfl, hid (fun i hi => by omega), HO, BX, HB⟩
      case round =>
        clear HO BX HB x2
        obtain ⟨b, hb, hz, rfl, HF, HO, BX, HB⟩ := hrel
        have x1 := blk_cell (i := 1) (v := Value.slice A n c) BX.out rfl
        have b0 : (0 : Int) ≤ (b : Int) := by omega
        have wjb : IntKind.i64.wrap ((j : Int) + (b : Int)) = (j : Int) + (b : Int) := by simp [IntKind.wrap, IntKind.signed, IntKind.bits]; omega
        have tjb : ((j : Int) + (b : Int)).toNat = j + b := by omega
        have jb0 : (0 : Int) ≤ (j : Int) + (b : Int) := by omega
        by_cases hbn : b < n
        · have b1 : (b : Int) < (n : Int) := by omega
          go_wp2_with fail
          by_cases hin : j + b < k
          · have in1 : (j : Int) + (b : Int) < (k : Int) := by omega
            have in2 : ¬ (k : Int) ≤ (j : Int) + (b : Int) := by omega
            obtain ⟨ad, rfl, hc⟩ := (HL.out.grow HB.out).at_ (j + b) (by rw [HK.out]; omega)
            obtain ⟨bd, rfl, hd⟩ := (HX.out.grow HB.out).at_ b (by rw [HN.out]; omega)
            have HXY := hid (show ∀ h : l.getD (j + b) ByteArray.empty = xs.getD b ByteArray.empty, ∀ i, i < b + 1 → j + i < l.length ∧ l.getD (j + i) ByteArray.empty = xs.getD i ByteArray.empty from fun h i hi => by
              by_cases e3 : i < b
              · exact HF.out i e3
              · obtain rfl : i = b := by omega
                exact ⟨by rw [HK.out]; exact hin, h⟩)
            have HXN := hid (show l.getD (j + b) ByteArray.empty ≠ xs.getD b ByteArray.empty → fitB l j xs = false from fun h => by
              cases hfb : fitB l j xs with
              | false => rfl
              | true => exact absurd (fit_at hfb b (by rw [HN.out]; exact hbn)).2 h)
            generalize l.getD (j + b) ByteArray.empty = x at *
            generalize xs.getD b ByteArray.empty = y at *
            have HC := hid hc
            have HD := hid hd
            clear hc hd
            refine wp_region_chain (fun W => W.heap[gx]? = some (.cells #[.int .i64 (j : Int), .slice (some bd) n c, .slice B e d] 79 (0, 0)) ∧ W.cell? (ad.add (j + b)) = some (.string x) ∧ W.cell? (bd.add b) = some (.string y)) [(0, true), (1, true), (2, true), (3, true), (4, true), (5, true), (6, true), (7, true), (8, true), (9, true), (10, true), (11, true), (12, true), (13, true), (14, true), (15, true), (16, true), (17, true), (18, true), (19, true), (20, true), (21, true)] rfl (by kernel_rfl) rfl (by kernel_rfl) ?_
            intro wc2 hb
            replace HO := hid (own_grow HO.out hb)
            replace BX := hid (grow_block BX.out hb)
            replace HB := hid (Grow.trans HB.out hb)
            replace HC := hid (grow_cell HC.out hb)
            replace HD := hid (grow_cell HD.out hb)
            clear hb
            refine ⟨⟨BX.out, HC.out, HD.out⟩, ?_⟩
            (refine' ch_val ?po1 ?pw1 ?pr1 ?pq1 ?ph1; (case' po1 => exact rfl); (case' pw1 => rfl); (case' pq1 => (exact fun _ _ _ h => h)); (case' pr1 => (intro w' hw'; go_simp; with_reducible rfl)); (case' ph1 => (try simp only [List.getElem_toArray, List.getElem_cons_zero, List.getElem_cons_succ, Act.put, List.setIfInBounds_toArray, List.set_cons_zero, List.set_cons_succ])))
            (refine' ch_val (v := (.int .i64 (j : Int))) ?po2 ?pw2 ?pr2 ?pq2 ?ph2; (case' po2 => exact rfl); (case' pw2 => rfl); (case' pq2 => (exact fun _ _ _ h => h)); (case' pr2 => (intro w' hw'; exact run_opLoadC (i := 0) rfl rfl hw'.1 rfl Try.underlying3 rfl)); (case' ph2 => (try simp only [List.getElem_toArray, List.getElem_cons_zero, List.getElem_cons_succ, Act.put, List.setIfInBounds_toArray, List.set_cons_zero, List.set_cons_succ])))
            (refine' ch_val ?po3 ?pw3 ?pr3 ?pq3 ?ph3; (case' po3 => exact rfl); (case' pw3 => rfl); (case' pq3 => (exact fun _ _ _ h => h)); (case' pr3 => (intro w' hw'; go_simp; with_reducible rfl)); (case' ph3 => (try simp only [List.getElem_toArray, List.getElem_cons_zero, List.getElem_cons_succ, Act.put, List.setIfInBounds_toArray, List.set_cons_zero, List.set_cons_succ]))); (refine' ch_val ?po4 ?pw4 ?pr4 ?pq4 ?ph4; (case' po4 => exact rfl); (case' pw4 => rfl); (case' pq4 => (exact fun _ _ _ h => h)); (case' pr4 => (intro w' hw'; go_simp; with_reducible rfl)); (case' ph4 => (try simp only [List.getElem_toArray, List.getElem_cons_zero, List.getElem_cons_succ, Act.put, List.setIfInBounds_toArray, List.set_cons_zero, List.set_cons_succ]))); (refine' ch_val ?po5 ?pw5 ?pr5 ?pq5 ?ph5; (case' po5 => exact rfl); (case' pw5 => rfl); (case' pq5 => (exact fun _ _ _ h => h)); (case' pr5 => (intro w' hw'; go_simp; with_reducible rfl)); (case' ph5 => (try simp only [List.getElem_toArray, List.getElem_cons_zero, List.getElem_cons_succ, Act.put, List.setIfInBounds_toArray, List.set_cons_zero, List.set_cons_succ]))); (refine' ch_val ?po6 ?pw6 ?pr6 ?pq6 ?ph6; (case' po6 => exact rfl); (case' pw6 => rfl); (case' pq6 => (exact fun _ _ _ h => h)); (case' pr6 => (intro w' hw'; go_simp; with_reducible rfl)); (case' ph6 => (try simp only [List.getElem_toArray, List.getElem_cons_zero, List.getElem_cons_succ, Act.put, List.setIfInBounds_toArray, List.set_cons_zero, List.set_cons_succ]))); (refine' ch_val ?po7 ?pw7 ?pr7 ?pq7 ?ph7; (case' po7 => exact rfl); (case' pw7 => rfl); (case' pq7 => (exact fun _ _ _ h => h)); (case' pr7 => (intro w' hw'; go_simp; with_reducible rfl)); (case' ph7 => (try simp only [List.getElem_toArray, List.getElem_cons_zero, List.getElem_cons_succ, Act.put, List.setIfInBounds_toArray, List.set_cons_zero, List.set_cons_succ]))); (refine' ch_val ?po8 ?pw8 ?pr8 ?pq8 ?ph8; (case' po8 => exact rfl); (case' pw8 => rfl); (case' pq8 => (exact fun _ _ _ h => h)); (case' pr8 => (intro w' hw'; go_simp; with_reducible rfl)); (case' ph8 => (try simp only [List.getElem_toArray, List.getElem_cons_zero, List.getElem_cons_succ, Act.put, List.setIfInBounds_toArray, List.set_cons_zero, List.set_cons_succ]))); (refine' ch_val ?po9 ?pw9 ?pr9 ?pq9 ?ph9; (case' po9 => exact rfl); (case' pw9 => rfl); (case' pq9 => (exact fun _ _ _ h => h)); (case' pr9 => (intro w' hw'; go_simp; with_reducible rfl)); (case' ph9 => (try simp only [List.getElem_toArray, List.getElem_cons_zero, List.getElem_cons_succ, Act.put, List.setIfInBounds_toArray, List.set_cons_zero, List.set_cons_succ]))); (refine' ch_val ?po10 ?pw10 ?pr10 ?pq10 ?ph10; (case' po10 => exact rfl); (case' pw10 => rfl); (case' pq10 => (exact fun _ _ _ h => h)); (case' pr10 => (intro w' hw'; go_simp; with_reducible rfl)); (case' ph10 => (try simp only [List.getElem_toArray, List.getElem_cons_zero, List.getElem_cons_succ, Act.put, List.setIfInBounds_toArray, List.set_cons_zero, List.set_cons_succ])))
            (refine' ch_val (v := (.int .i64 (j : Int))) ?po11 ?pw11 ?pr11 ?pq11 ?ph11; (case' po11 => exact rfl); (case' pw11 => rfl); (case' pq11 => (exact fun _ _ _ h => h)); (case' pr11 => (intro w' hw'; exact run_opLoadC (i := 0) rfl rfl hw'.1 rfl Try.underlying3 rfl)); (case' ph11 => (try simp only [List.getElem_toArray, List.getElem_cons_zero, List.getElem_cons_succ, Act.put, List.setIfInBounds_toArray, List.set_cons_zero, List.set_cons_succ])))
            (refine' ch_val ?po12 ?pw12 ?pr12 ?pq12 ?ph12; (case' po12 => exact rfl); (case' pw12 => rfl); (case' pq12 => (exact fun _ _ _ h => h)); (case' pr12 => (intro w' hw'; go_simp; with_reducible rfl)); (case' ph12 => (try simp only [List.getElem_toArray, List.getElem_cons_zero, List.getElem_cons_succ, Act.put, List.setIfInBounds_toArray, List.set_cons_zero, List.set_cons_succ]))); (refine' ch_val ?po13 ?pw13 ?pr13 ?pq13 ?ph13; (case' po13 => exact rfl); (case' pw13 => rfl); (case' pq13 => (exact fun _ _ _ h => h)); (case' pr13 => (intro w' hw'; go_simp; with_reducible rfl)); (case' ph13 => (try simp only [List.getElem_toArray, List.getElem_cons_zero, List.getElem_cons_succ, Act.put, List.setIfInBounds_toArray, List.set_cons_zero, List.set_cons_succ]))); (refine' ch_val ?po14 ?pw14 ?pr14 ?pq14 ?ph14; (case' po14 => exact rfl); (case' pw14 => rfl); (case' pq14 => (exact fun _ _ _ h => h)); (case' pr14 => (intro w' hw'; go_simp; with_reducible rfl)); (case' ph14 => (try simp only [List.getElem_toArray, List.getElem_cons_zero, List.getElem_cons_succ, Act.put, List.setIfInBounds_toArray, List.set_cons_zero, List.set_cons_succ])))
            (refine' ch_val (v := (.string x)) ?po15 ?pw15 ?pr15 ?pq15 ?ph15; (case' po15 => exact rfl); (case' pw15 => rfl); (case' pq15 => (exact fun _ _ _ h => h)); (case' pr15 => (intro w' hw'; exact run_opLoad1 rfl rfl hw'.2.1 Try.underlying9 rfl)); (case' ph15 => (try simp only [List.getElem_toArray, List.getElem_cons_zero, List.getElem_cons_succ, Act.put, List.setIfInBounds_toArray, List.set_cons_zero, List.set_cons_succ])))
            (refine' ch_val ?po16 ?pw16 ?pr16 ?pq16 ?ph16; (case' po16 => exact rfl); (case' pw16 => rfl); (case' pq16 => (exact fun _ _ _ h => h)); (case' pr16 => (intro w' hw'; go_simp; with_reducible rfl)); (case' ph16 => (try simp only [List.getElem_toArray, List.getElem_cons_zero, List.getElem_cons_succ, Act.put, List.setIfInBounds_toArray, List.set_cons_zero, List.set_cons_succ])))
            (refine' ch_val (v := (.slice (some bd) n c)) ?po17 ?pw17 ?pr17 ?pq17 ?ph17; (case' po17 => exact rfl); (case' pw17 => rfl); (case' pq17 => (exact fun _ _ _ h => h)); (case' pr17 => (intro w' hw'; exact run_opLoadC (i := 1) rfl rfl hw'.1 rfl Try.underlying22 rfl)); (case' ph17 => (try simp only [List.getElem_toArray, List.getElem_cons_zero, List.getElem_cons_succ, Act.put, List.setIfInBounds_toArray, List.set_cons_zero, List.set_cons_succ])))
            (refine' ch_val ?po18 ?pw18 ?pr18 ?pq18 ?ph18; (case' po18 => exact rfl); (case' pw18 => rfl); (case' pq18 => (exact fun _ _ _ h => h)); (case' pr18 => (intro w' hw'; go_simp; with_reducible rfl)); (case' ph18 => (try simp only [List.getElem_toArray, List.getElem_cons_zero, List.getElem_cons_succ, Act.put, List.setIfInBounds_toArray, List.set_cons_zero, List.set_cons_succ]))); (refine' ch_val ?po19 ?pw19 ?pr19 ?pq19 ?ph19; (case' po19 => exact rfl); (case' pw19 => rfl); (case' pq19 => (exact fun _ _ _ h => h)); (case' pr19 => (intro w' hw'; go_simp; with_reducible rfl)); (case' ph19 => (try simp only [List.getElem_toArray, List.getElem_cons_zero, List.getElem_cons_succ, Act.put, List.setIfInBounds_toArray, List.set_cons_zero, List.set_cons_succ])))
            (refine' ch_val (v := (.string y)) ?po20 ?pw20 ?pr20 ?pq20 ?ph20; (case' po20 => exact rfl); (case' pw20 => rfl); (case' pq20 => (exact fun _ _ _ h => h)); (case' pr20 => (intro w' hw'; exact run_opLoad1 rfl rfl hw'.2.2 Try.underlying9 rfl)); (case' ph20 => (try simp only [List.getElem_toArray, List.getElem_cons_zero, List.getElem_cons_succ, Act.put, List.setIfInBounds_toArray, List.set_cons_zero, List.set_cons_succ])))
            (refine' ch_val ?po21 ?pw21 ?pr21 ?pq21 ?ph21; (case' po21 => exact rfl); (case' pw21 => rfl); (case' pq21 => (exact fun _ _ _ h => h)); (case' pr21 => (intro w' hw'; go_simp; with_reducible rfl)); (case' ph21 => (try simp only [List.getElem_toArray, List.getElem_cons_zero, List.getElem_cons_succ, Act.put, List.setIfInBounds_toArray, List.set_cons_zero, List.set_cons_succ]))); (refine' ch_val ?po22 ?pw22 ?pr22 ?pq22 ?ph22; (case' po22 => exact rfl); (case' pw22 => rfl); (case' pq22 => (exact fun _ _ _ h => h)); (case' pr22 => (intro w' hw'; go_simp; with_reducible rfl)); (case' ph22 => (try simp only [List.getElem_toArray, List.getElem_cons_zero, List.getElem_cons_succ, Act.put, List.setIfInBounds_toArray, List.set_cons_zero, List.set_cons_succ])))
            refine ch_nil ?_
            generalize hzz : (!(x.toList == y.toList)) = zb
            have HZZ := hid hzz
            clear hzz
            cases zb with
            | false =>
              have hxy : x = y := by
                by_cases e : x = y
                · exact e
                · have h := HZZ.out
                  rw [toList_beq_ne e] at h
                  cases h
              have HF2 := hid (HXY.out hxy)
              clear hxy HZZ HXY HXN HC HD HF x1
              go_wp2_with fail
              go_roundg (n + 1 - (b + 1))
              case rel => exact ⟨b + 1, by omega, rfl, by go_num, HF2, HO, BX, HB⟩
              case measure => omega
            | true =>
              have hxy : x ≠ y := fun e => by
                have h := HZZ.out
                rw [e] at h
                simp at h
              have HR := hid (show applyD l (j : Int) xs ys = none by rw [HAP.out, HXN.out hxy]; simp)
              clear hxy HZZ HXY HXN HC HD
              go_wp2_with fail
              go_ret2
              exact ⟨_, _, rfl, by rw [HR.out]; exact ⟨by decide, rfl⟩, HB.out⟩
          · have in1 : (k : Int) ≤ (j : Int) + (b : Int) := by omega
            have HR := hid (show applyD l (j : Int) xs ys = none by
              rw [HAP.out]
              cases hfb : fitB l j xs with
              | false => simp
              | true => have := (fit_at hfb b (by rw [HN.out]; exact hbn)).1; rw [HK.out] at this; omega)
            refine wp_region_chain (fun W => W.heap[gx]? = some (.cells #[.int .i64 (j : Int), .slice A n c, .slice B e d] 79 (0, 0))) [(0, true), (1, true), (2, true), (3, true), (4, true), (5, true), (6, true), (7, true), (8, true), (9, true), (10, true), (11, true), (12, true), (13, true), (14, true), (15, true), (16, true), (17, true), (18, true), (19, true), (20, true), (21, true)] rfl (by kernel_rfl) rfl (by kernel_rfl) ?_
            intro wc3 hb
            replace HO := hid (own_grow HO.out hb)
            replace BX := hid (grow_block BX.out hb)
            replace HB := hid (Grow.trans HB.out hb)
            clear hb
            refine ⟨BX.out, ?_⟩
            (refine' ch_val ?po23 ?pw23 ?pr23 ?pq23 ?ph23; (case' po23 => exact rfl); (case' pw23 => rfl); (case' pq23 => (exact fun _ _ _ h => h)); (case' pr23 => (intro w' hw'; go_simp; with_reducible rfl)); (case' ph23 => (try simp only [List.getElem_toArray, List.getElem_cons_zero, List.getElem_cons_succ, Act.put, List.setIfInBounds_toArray, List.set_cons_zero, List.set_cons_succ])))
            (refine' ch_val (v := (.int .i64 (j : Int))) ?po24 ?pw24 ?pr24 ?pq24 ?ph24; (case' po24 => exact rfl); (case' pw24 => rfl); (case' pq24 => (exact fun _ _ _ h => h)); (case' pr24 => (intro w' hw'; exact run_opLoadC (i := 0) rfl rfl hw' rfl Try.underlying3 rfl)); (case' ph24 => (try simp only [List.getElem_toArray, List.getElem_cons_zero, List.getElem_cons_succ, Act.put, List.setIfInBounds_toArray, List.set_cons_zero, List.set_cons_succ])))
            (refine' ch_val ?po25 ?pw25 ?pr25 ?pq25 ?ph25; (case' po25 => exact rfl); (case' pw25 => rfl); (case' pq25 => (exact fun _ _ _ h => h)); (case' pr25 => (intro w' hw'; go_simp; with_reducible rfl)); (case' ph25 => (try simp only [List.getElem_toArray, List.getElem_cons_zero, List.getElem_cons_succ, Act.put, List.setIfInBounds_toArray, List.set_cons_zero, List.set_cons_succ]))); (refine' ch_val ?po26 ?pw26 ?pr26 ?pq26 ?ph26; (case' po26 => exact rfl); (case' pw26 => rfl); (case' pq26 => (exact fun _ _ _ h => h)); (case' pr26 => (intro w' hw'; go_simp; with_reducible rfl)); (case' ph26 => (try simp only [List.getElem_toArray, List.getElem_cons_zero, List.getElem_cons_succ, Act.put, List.setIfInBounds_toArray, List.set_cons_zero, List.set_cons_succ]))); (refine' ch_val ?po27 ?pw27 ?pr27 ?pq27 ?ph27; (case' po27 => exact rfl); (case' pw27 => rfl); (case' pq27 => (exact fun _ _ _ h => h)); (case' pr27 => (intro w' hw'; go_simp; with_reducible rfl)); (case' ph27 => (try simp only [List.getElem_toArray, List.getElem_cons_zero, List.getElem_cons_succ, Act.put, List.setIfInBounds_toArray, List.set_cons_zero, List.set_cons_succ]))); (refine' ch_val ?po28 ?pw28 ?pr28 ?pq28 ?ph28; (case' po28 => exact rfl); (case' pw28 => rfl); (case' pq28 => (exact fun _ _ _ h => h)); (case' pr28 => (intro w' hw'; go_simp; with_reducible rfl)); (case' ph28 => (try simp only [List.getElem_toArray, List.getElem_cons_zero, List.getElem_cons_succ, Act.put, List.setIfInBounds_toArray, List.set_cons_zero, List.set_cons_succ]))); (refine' ch_val ?po29 ?pw29 ?pr29 ?pq29 ?ph29; (case' po29 => exact rfl); (case' pw29 => rfl); (case' pq29 => (exact fun _ _ _ h => h)); (case' pr29 => (intro w' hw'; go_simp; with_reducible rfl)); (case' ph29 => (try simp only [List.getElem_toArray, List.getElem_cons_zero, List.getElem_cons_succ, Act.put, List.setIfInBounds_toArray, List.set_cons_zero, List.set_cons_succ]))); (refine' ch_val ?po30 ?pw30 ?pr30 ?pq30 ?ph30; (case' po30 => exact rfl); (case' pw30 => rfl); (case' pq30 => (exact fun _ _ _ h => h)); (case' pr30 => (intro w' hw'; go_simp; with_reducible rfl)); (case' ph30 => (try simp only [List.getElem_toArray, List.getElem_cons_zero, List.getElem_cons_succ, Act.put, List.setIfInBounds_toArray, List.set_cons_zero, List.set_cons_succ])))
            (refine' ch_skip rfl rfl (fun _ _ _ h => h) ?_; try simp only [List.getElem_toArray, List.getElem_cons_zero, List.getElem_cons_succ, Act.put, List.setIfInBounds_toArray, List.set_cons_zero, List.set_cons_succ]); (refine' ch_skip rfl rfl (fun _ _ _ h => h) ?_; try simp only [List.getElem_toArray, List.getElem_cons_zero, List.getElem_cons_succ, Act.put, List.setIfInBounds_toArray, List.set_cons_zero, List.set_cons_succ]); (refine' ch_skip rfl rfl (fun _ _ _ h => h) ?_; try simp only [List.getElem_toArray, List.getElem_cons_zero, List.getElem_cons_succ, Act.put, List.setIfInBounds_toArray, List.set_cons_zero, List.set_cons_succ]); (refine' ch_skip rfl rfl (fun _ _ _ h => h) ?_; try simp only [List.getElem_toArray, List.getElem_cons_zero, List.getElem_cons_succ, Act.put, List.setIfInBounds_toArray, List.set_cons_zero, List.set_cons_succ]); (refine' ch_skip rfl rfl (fun _ _ _ h => h) ?_; try simp only [List.getElem_toArray, List.getElem_cons_zero, List.getElem_cons_succ, Act.put, List.setIfInBounds_toArray, List.set_cons_zero, List.set_cons_succ]); (refine' ch_skip rfl rfl (fun _ _ _ h => h) ?_; try simp only [List.getElem_toArray, List.getElem_cons_zero, List.getElem_cons_succ, Act.put, List.setIfInBounds_toArray, List.set_cons_zero, List.set_cons_succ]); (refine' ch_skip rfl rfl (fun _ _ _ h => h) ?_; try simp only [List.getElem_toArray, List.getElem_cons_zero, List.getElem_cons_succ, Act.put, List.setIfInBounds_toArray, List.set_cons_zero, List.set_cons_succ]); (refine' ch_skip rfl rfl (fun _ _ _ h => h) ?_; try simp only [List.getElem_toArray, List.getElem_cons_zero, List.getElem_cons_succ, Act.put, List.setIfInBounds_toArray, List.set_cons_zero, List.set_cons_succ]); (refine' ch_skip rfl rfl (fun _ _ _ h => h) ?_; try simp only [List.getElem_toArray, List.getElem_cons_zero, List.getElem_cons_succ, Act.put, List.setIfInBounds_toArray, List.set_cons_zero, List.set_cons_succ]); (refine' ch_skip rfl rfl (fun _ _ _ h => h) ?_; try simp only [List.getElem_toArray, List.getElem_cons_zero, List.getElem_cons_succ, Act.put, List.setIfInBounds_toArray, List.set_cons_zero, List.set_cons_succ]); (refine' ch_skip rfl rfl (fun _ _ _ h => h) ?_; try simp only [List.getElem_toArray, List.getElem_cons_zero, List.getElem_cons_succ, Act.put, List.setIfInBounds_toArray, List.set_cons_zero, List.set_cons_succ]); (refine' ch_skip rfl rfl (fun _ _ _ h => h) ?_; try simp only [List.getElem_toArray, List.getElem_cons_zero, List.getElem_cons_succ, Act.put, List.setIfInBounds_toArray, List.set_cons_zero, List.set_cons_succ]); (refine' ch_skip rfl rfl (fun _ _ _ h => h) ?_; try simp only [List.getElem_toArray, List.getElem_cons_zero, List.getElem_cons_succ, Act.put, List.setIfInBounds_toArray, List.set_cons_zero, List.set_cons_succ])
            (refine' ch_val ?po31 ?pw31 ?pr31 ?pq31 ?ph31; (case' po31 => exact rfl); (case' pw31 => rfl); (case' pq31 => (exact fun _ _ _ h => h)); (case' pr31 => (intro w' hw'; go_simp; with_reducible rfl)); (case' ph31 => (try simp only [List.getElem_toArray, List.getElem_cons_zero, List.getElem_cons_succ, Act.put, List.setIfInBounds_toArray, List.set_cons_zero, List.set_cons_succ])))
            refine ch_nil ?_
            go_wp2_with fail
            go_ret2
            exact ⟨_, _, rfl, by rw [HR.out]; exact ⟨by decide, rfl⟩, HB.out⟩
        obtain rfl : b = n := by omega
        have HFT := hid (fit_of (l := l) (o := xs) (q := j) (by rw [HN.out]; exact HF.out))
        clear hbn hz hb HF
        have hjbk : j + b ≤ k := by
          rcases Nat.eq_zero_or_pos b with e | e
          · omega
          · have := (fit_at HFT.out (b - 1) (by rw [HN.out]; omega)).1
            rw [HK.out] at this
            omega
        have x0 := blk_cell (i := 0) (v := Value.int .i64 (j : Int)) BX.out rfl
        go_wp2_with fail
        obtain ⟨N, hN⟩ : ∃ N, N = k - (j + b) := ⟨_, rfl⟩
        have HNN := hid (show j + b + N = k by omega)
        clear hN
        go_loopg [6, 10] (N + 1) (fun z v i wr => ∃ t : Nat, t ≤ N ∧ z = N + 1 - t ∧ i = .int .i64 ((j : Int) + (b : Int) + (t : Int)) ∧ Hid (wr.ownsRow w.heap.size 9 1 v (j + e + t) ((l.take j ++ ys ++ (l.drop (j + b)).take t).map Value.string)) ∧ Hid (Grow w wr))
        case atStart => exact ⟨0, by omega, by omega, by go_num, by simpa using HO, HB⟩
        case round =>
          clear HO BX HB x1 x0
          obtain ⟨t, ht, hz, rfl, HO, HB⟩ := hrel
          have t0 : (0 : Int) ≤ (j : Int) + (b : Int) + (t : Int) := by omega
          have tt : ((j : Int) + (b : Int) + (t : Int)).toNat = j + b + t := by omega
          have hNN := HNN.out
          by_cases htN : t < N
          · have t1 : (j : Int) + (b : Int) + (t : Int) < (k : Int) := by omega
            have wt : IntKind.i64.wrap ((j : Int) + (b : Int) + (t : Int) + 1) = (j : Int) + (b : Int) + (t : Int) + 1 := by simp [IntKind.wrap, IntKind.signed, IntKind.bits]; omega
            obtain ⟨ad, rfl, hc⟩ := (HL.out.grow HB.out).at_ (j + b + t) (by rw [HK.out]; omega)
            have HS1 := hid (strSnoc (l.drop (j + b)) t (by rw [List.length_drop, HK.out]; omega))
            have e9 : (l.drop (j + b)).getD t ByteArray.empty = l.getD (j + b + t) ByteArray.empty := by simp only [List.getD_eq_getElem?_getD, List.getElem?_drop]
            rw [e9] at HS1
            generalize l.getD (j + b + t) ByteArray.empty = x at *
            have HSZ := hid (show w.heap.size ≤ wr.heap.size from HB.out.size)
            have ht9 : j + e + t ≤ 3000 := by omega
            have HH := hid hNN
            clear hNN e9
            go_wp2_with (first | (refine op_app1M (z := .string ByteArray.empty) rfl rfl rfl rfl rfl rfl Try.underlying22 infoS1 rfl (fun _ => rfl) (fun _ => rfl) rfl rfl HO.out HSZ.out (by omega) (by omega) ?_) | fail)
            intro sl v2 w6 ho hg hm
            have HO6 := hid (show w6.ownsRow w.heap.size 9 1 v2 (j + e + (t + 1)) ((l.take j ++ ys ++ (l.drop (j + b)).take (t + 1)).map Value.string) by rw [List.map_append, HS1.out]; simp only [List.map_take, List.map_append, List.map_drop, List.append_assoc] at ho ⊢; exact ho)
            have HB6 := hid (show Grow w w6 from Below.trans (show Below w.heap.size w wr from HB.out) (below_own HO.out hg HSZ.out))
            clear ho hg hm HO HB hc HS1
            go_wp2_with fail
            go_roundg (N + 1 - (t + 1))
            case rel => exact ⟨t + 1, by omega, rfl, by go_num, HO6, HB6⟩
            case measure => omega
          obtain rfl : t = N := by omega
          have t1 : ¬ (j : Int) + (b : Int) + (t : Int) < (k : Int) := by omega
          have HOF := hid (show wr.ownsRow w.heap.size 9 1 u6 (j + e + t) ((l.take j ++ ys ++ l.drop (j + b)).map Value.string) by
            have h := HO.out
            rw [List.take_of_length_le (l := l.drop (j + b)) (by rw [List.length_drop, HK.out]; omega)] at h
            exact h)
          have hlen : (l.take j ++ ys ++ l.drop (j + b)).length = j + e + t := by
            simp [HK.out, HM.out]
            omega
          have HLEN := hid hlen
          have HH := hid hNN
          obtain ⟨A6, c6, rfl, _⟩ := own_sl HOF.out
          clear hlen HO hNN
          by_cases hbig : 1000 < j + e + t
          · have hb2 : (1000 : Int) < (j : Int) + (e : Int) + (t : Int) := by omega
            have HR := hid (show applyD l (j : Int) xs ys = none by rw [HAP.out, if_neg (by rw [HK.out, HN.out, HM.out]; have := HH.out; omega)])
            go_wp2_with fail
            go_ret2
            exact ⟨_, _, rfl, by rw [HR.out]; exact ⟨by decide, rfl⟩, HB.out⟩
          · have hb2 : ¬ (1000 : Int) < (j : Int) + (e : Int) + (t : Int) := by omega
            have HR := hid (show applyD l (j : Int) xs ys = some (l.take j ++ ys ++ l.drop (j + b)) by rw [HAP.out, if_pos ⟨by rw [HK.out]; omega, HFT.out, by rw [HK.out, HN.out, HM.out]; have := HH.out; omega⟩, HN.out])
            go_wp2_with fail
            go_ret2
            exact ⟨_, _, rfl, by rw [HR.out]; exact ⟨rfl, by rw [HLEN.out]; exact HOF.out⟩, HB.out⟩
end Go.Proofs.Ytkbapegohodcgaa
