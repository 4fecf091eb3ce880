import Derived.Test.YtkibibgbmkejjaaQRefP
set_option linter.unusedSimpArgs false
set_option linter.unusedVariables false
namespace Go.Proofs.Ytkibibgbmkejjaa
open Go.RowKit
open Go.Qk hiding rotr b4
attribute [local go_sem ↓ high] add_w32 and_w32 or_w32 xor_w32 shr_w32 shl_w32 shr3_w32 shr10_w32 shr8_w32 shr16_w32 shr24_w32 shl8_w32 sub_w32
attribute [local go_sem high] not_w32 max_xor_w32 sub_max_w32

set_option maxHeartbeats 3000000
set_option maxRecDepth 100000
theorem row_alloc (w : World) (e : TypeId) : (w.alloc (.cells #[] e)).ownsRow w.heap.size e 1 (.slice (some ⟨w.heap.size, 0, none⟩) 0 0) 0 [] :=
  World.ownsRow_made _ #[] 0 (Nat.le_refl _) (by decide) (by simp)
/-- A row of words of the call's own. -/
def URow (B : Nat) (w : World) (v : Value) (l : List UInt32) : Prop := w.ownsRow B 153 1 v l.length (u32s l)
theorem own_base {w : World} {B B' : Nat} {e : TypeId} {sz n : Nat} {v : Value} {xs : List Value} (h : w.ownsRow B e sz v n xs) (hB : B' ≤ B) : w.ownsRow B' e sz v n xs := by
  refine ⟨h.1, ?_⟩
  rcases h.2 with h | ⟨g, cap, cur, h1, h2, h3⟩
  · exact .inl h
  · exact .inr ⟨g, cap, cur, h1, Nat.le_trans hB h2, h3⟩
theorem u32At_news {w : World} {ad : Addr} {l : List UInt32} (h : U32At w ad l) (j : Nat) (u : Value) (hj : (u32s l)[j]? = some u) : w.cell? (ad.add j) = some u := by
  have hlt : j < l.length := by
    rcases Nat.lt_or_ge j l.length with h1 | h1
    · exact h1
    · rw [List.getElem?_eq_none (by rw [u32s_length]; exact h1)] at hj
      exact absurd hj (by simp)
  rw [u32s_get l j hlt] at hj
  rw [← hj]
  exact h j hlt
theorem u32At_off {w : World} {g : Nat} {l : List UInt32} (h : U32At w ⟨g, 0, none⟩ l) (i : Nat) (hi : i < l.length) : w.cell? ⟨g, i, none⟩ = some (.int .u32 (w32 (l.getD i 0))) := by
  rw [← addr_add]; exact h i hi
theorem refOne (h : List UInt32) (hh : h.length = 8) (adh adk : Addr) (ch ck : Nat) (b : List UInt8) (hb : b.length = 64) (w : World) (hh8 : U32At w adh h) (hk64 : U32At w adk shaK) :
    Calls Try.prog 134 #[.slice (some adh) 8 ch, .slice (some adk) 64 ck, .string (bs b)] w fun e w' => ∃ v, e = .returned v ∧ w'.ownsRow w.heap.size 153 1 v 8 (u32s (shaAdd h b)) ∧ Below w.heap.size w w' := by
  have HH := hid hh
  have HB64 := hid hb
  have H8 := hid hh8
  have HK := hid hk64
  have hs : (bs b).size = 64 := by rw [bs_size]; exact hb
  clear hh8 hk64 hh hb
  go_enter Try.func134, Try.ntmps134
  go_wp2_with fail
  go_loopg [7, 8] 17 (fun q v i wr => ∃ k : Nat, k ≤ 16 ∧ q = 17 - k ∧ i = .int .i64 k ∧ Hid (wr.ownsRow w.heap.size 153 1 v k (u32s (wordsOf b k))) ∧ Hid (Below w.heap.size w wr) ∧ Hid (w.heap.size ≤ wr.heap.size))
  case atStart => exact ⟨0, by omega, by omega, rfl, row_alloc _ _, (Below.refl _ _).alloc (Nat.le_refl _) _, hid (by simp)⟩
  case round =>
    obtain ⟨k, hk, hq, rfl, hO, hB, hL⟩ := hrel
    by_cases hlt : k < 16
    · have hx := bs_extract b (4 * k) (4 * k + 4)
      have hv := wAt_val b k 4 (by omega) (by have := HB64.out; omega)
      go_wp2_with fail
      refine (refValue ((b.drop (4 * k)).take 4) (by rw [List.length_take]; omega) _).mono ?_
      rintro e w3 ⟨rfl, hb3⟩
      rw [← hv]
      have hO3 := own_grow hO.out hb3
      have HO3 := hid hO3
      have HB3 := hid (below_grow hB.out hL.out hb3)
      have HL3 := hid (Nat.le_trans hL.out hb3.size)
      clear hO3 hb3 hx hv hO hB hL
      have w0 := w32_lo (wAt b k 4)
      have w1 := w32_hi (wAt b k 4)
      have hwr : IntKind.u32.wrap (w32 (wAt b k 4)) = w32 (wAt b k 4) := by simp [IntKind.wrap, IntKind.signed, IntKind.bits]; omega
      have HW := hid (show wordsOf b (k + 1) = wordsOf b k ++ [wAt b k 4] from wordsOf_succ b k)
      clear w0 w1
      change Hid _ at HW
      rw [show (((wAt b k 4).toNat : Nat) : Int) = w32 (wAt b k 4) from rfl]
      generalize wAt b k 4 = x at *
      go_wp2_with (at_builtin; refine app_cells (w0 := w) (B := w.heap.size) (.tmp 25) (.tmp 35) 139 153 (.int .u32 0) 1 4 _ k (u32s (wordsOf b k)) [.int .u32 (w32 x)] ⟨w3.heap.size, 0, none⟩ 1 1 rfl rfl Try.underlying139 infoU32 rfl (by decide) rfl rfl rfl ?h2 ?h3 ?h1 ?h4 ?h6 ?h5 ?h7 ?_)
      case h1 => exact HO3.out.alloc _
      case h2 => exact cell_one_new _ _ _
      case h3 => simp [Value.oneCell']
      case h4 => exact HB3.out.alloc HL3.out _
      case h5 => omega
      case h7 => omega
      case h6 => simp; exact Nat.le_succ_of_le HL3.out
      intro v' w4 hown' hb4 hs4
      have e4 : u32s (wordsOf b k) ++ [.int .u32 (w32 x)] = u32s (wordsOf b (k + 1)) := by rw [HW.out, u32s_append]; rfl
      rw [e4] at hown'
      have HO4 := hid hown'
      have HB4 := hid hb4
      have HS4 := hid hs4
      clear e4 hown' hb4 hs4
      go_wp2
      go_roundg (17 - (k + 1))
      case rel => exact ⟨k + 1, by omega, rfl, by go_num, HO4, HB4, HS4⟩
      case measure => omega
    · obtain rfl : k = 16 := by omega
      go_wp2_with fail
      have HO16 := hO
      have HB16 := hB
      have HL16 := hL
      go_loopg [7, 9] 49 (fun q v i wr => ∃ n : Nat, 16 ≤ n ∧ n ≤ 64 ∧ q = 65 - n ∧ i = .int .i64 n ∧ Hid (wr.ownsRow w.heap.size 153 1 v n (u32s (sched b (n - 16)))) ∧ Hid (Below w.heap.size w wr) ∧ Hid (w.heap.size ≤ wr.heap.size))
      case atStart => exact ⟨16, by omega, by omega, rfl, rfl, HO16.out, HB16, HL16⟩
      case round =>
        obtain ⟨n, hn0, hn, hq, rfl, hO, hB, hL⟩ := hrel
        clear HO16 HB16 HL16
        by_cases hlt : n < 64
        · have hl64 := sched_length b (n - 16)
          obtain ⟨gv, cap, rfl, hgv, hcap⟩ := own_form hO.out (by omega)
          have cg : ∀ j, j < n → ∀ w', Grow wr w' → w'.cell? ⟨gv, j, none⟩ = some (.int .u32 (w32 ((sched b (n - 16)).getD j 0))) := fun j hj w' hw' => u32At_off (u32At_own (own_grow hO.out hw')) j (by rw [hl64]; omega)
          have CG := hid cg
          clear cg hgv hcap
          have i1 : (n : Int) - 15 = ((n - 15 : Nat) : Int) := by omega
          have i2 : (n : Int) - 2 = ((n - 2 : Nat) : Int) := by omega
          have j1 : ((n - 15 : Nat) : Int) < n := by omega
          have j2 : ((n - 2 : Nat) : Int) < n := by omega
          have e1 : IntKind.i64.wrap ((n - 15 : Nat) : Int) = ((n - 15 : Nat) : Int) := by simp [IntKind.wrap, IntKind.signed, IntKind.bits]; omega
          have e2 : IntKind.i64.wrap ((n - 2 : Nat) : Int) = ((n - 2 : Nat) : Int) := by simp [IntKind.wrap, IntKind.signed, IntKind.bits]; omega
          have c1 := CG.out (n - 15) (by omega)
          have c2 := CG.out (n - 2) (by omega)
          have HX := hid (refExt_eq (sched b (n - 16)) n)
          generalize (sched b (n - 16)).getD (n - 15) 0 = x at *
          generalize (sched b (n - 16)).getD (n - 2) 0 = y at *
          clear hl64
          go_wp2
          (refine' wp_region_head 12 0 [_, _, _, _, _, _, _, _, _, _, _, _] rfl (by kernel_rfl) (by kernel_rfl) ?hreg1; case' hreg1 => simp only [List.take_succ_cons, List.take_zero, List.zip_cons_cons, List.zip_nil_right, List.drop_succ_cons, List.drop_zero, List.drop_nil])
          (iterate 12 (refine' head_val ?_ ?_ ?_ ?_; rotate_left; (· rfl); (· first | exact fun _ _ _ => trivial | (intro t ht w; cases ht; simp [upE])); (· intro w' hw' _; go_simp; with_reducible rfl); simp only [Act.put, List.setIfInBounds_toArray, List.set_cons_zero, List.set_cons_succ]))
          refine head_nil ?_
          intro w3 hw3 _
          refine wpList_nil ?_
          clear c1 c2 i1 i2 j1 j2 e1 e2
          have c1 := fun w' (hw' : Grow w3 w') => CG.out (n - 16) (by omega) w' (Grow.trans hw3 hw')
          have c2 := fun w' (hw' : Grow w3 w') => CG.out (n - 7) (by omega) w' (Grow.trans hw3 hw')
          have HB3 := hid (below_grow hB.out hL.out hw3)
          have HL3 := hid (Nat.le_trans hL.out hw3.size)
          have HO3 := hid (own_grow hO.out hw3)
          clear hw3
          generalize (sched b (n - 16)).getD (n - 16) 0 = x0 at *
          generalize (sched b (n - 16)).getD (n - 7) 0 = y0 at *
          have i1 : (n : Int) - 16 = ((n - 16 : Nat) : Int) := by omega
          have i2 : (n : Int) - 7 = ((n - 7 : Nat) : Int) := by omega
          have j1 : ((n - 16 : Nat) : Int) < n := by omega
          have j2 : ((n - 7 : Nat) : Int) < n := by omega
          have e1 : IntKind.i64.wrap ((n - 16 : Nat) : Int) = ((n - 16 : Nat) : Int) := by simp [IntKind.wrap, IntKind.signed, IntKind.bits]; omega
          have e2 : IntKind.i64.wrap ((n - 7 : Nat) : Int) = ((n - 7 : Nat) : Int) := by simp [IntKind.wrap, IntKind.signed, IntKind.bits]; omega
          go_wp2
          (refine' wp_region_head 31 2 [_, _, _, _, _, _, _, _, _, _, _, _, _, _, _, _, _, _, _, _, _, _, _, _, _, _, _, _, _, _, _] rfl (by kernel_rfl) (by kernel_rfl) ?hreg2; case' hreg2 => simp only [List.take_succ_cons, List.take_zero, List.zip_cons_cons, List.zip_nil_right, List.drop_succ_cons, List.drop_zero, List.drop_nil])
          (iterate 7 (refine' head_val ?_ ?_ ?_ ?_; rotate_left; (· rfl); (· first | exact fun _ _ _ => trivial | (intro t ht w; cases ht; simp [upE])); (· intro w' hw' _; go_simp; with_reducible rfl); simp only [Act.put, List.setIfInBounds_toArray, List.set_cons_zero, List.set_cons_succ]))
          (refine' head_call ?cw3 ?ce3 ?cr3 ?cc3 ?ch3; (case' cw3 => rfl); (case' ce3 => (first | exact fun _ _ _ => trivial | (intro t ht w; cases ht; simp [upE]))); (case' cr3 => (intro w'; go_simp; first | exact ⟨rfl, rfl⟩ | with_reducible rfl)); (case' cc3 => (intro w' hw' _; exact refTurn x 7 (by omega) (by omega) w')); (case' ch3 => (try simp only [Act.put, List.setIfInBounds_toArray, List.set_cons_zero, List.set_cons_succ])))
          (iterate 1 (refine' head_val ?_ ?_ ?_ ?_; rotate_left; (· rfl); (· first | exact fun _ _ _ => trivial | (intro t ht w; cases ht; simp [upE])); (· intro w' hw' _; go_simp; with_reducible rfl); simp only [Act.put, List.setIfInBounds_toArray, List.set_cons_zero, List.set_cons_succ]))
          (refine' head_call ?cw4 ?ce4 ?cr4 ?cc4 ?ch4; (case' cw4 => rfl); (case' ce4 => (first | exact fun _ _ _ => trivial | (intro t ht w; cases ht; simp [upE]))); (case' cr4 => (intro w'; go_simp; first | exact ⟨rfl, rfl⟩ | with_reducible rfl)); (case' cc4 => (intro w' hw' _; exact refTurn x 18 (by omega) (by omega) w')); (case' ch4 => (try simp only [Act.put, List.setIfInBounds_toArray, List.set_cons_zero, List.set_cons_succ])))
          (iterate 12 (refine' head_val ?_ ?_ ?_ ?_; rotate_left; (· rfl); (· first | exact fun _ _ _ => trivial | (intro t ht w; cases ht; simp [upE])); (· intro w' hw' _; go_simp; with_reducible rfl); simp only [Act.put, List.setIfInBounds_toArray, List.set_cons_zero, List.set_cons_succ]))
          (refine' head_call ?cw5 ?ce5 ?cr5 ?cc5 ?ch5; (case' cw5 => rfl); (case' ce5 => (first | exact fun _ _ _ => trivial | (intro t ht w; cases ht; simp [upE]))); (case' cr5 => (intro w'; go_simp; first | exact ⟨rfl, rfl⟩ | with_reducible rfl)); (case' cc5 => (intro w' hw' _; exact refTurn y 17 (by omega) (by omega) w')); (case' ch5 => (try simp only [Act.put, List.setIfInBounds_toArray, List.set_cons_zero, List.set_cons_succ])))
          (iterate 1 (refine' head_val ?_ ?_ ?_ ?_; rotate_left; (· rfl); (· first | exact fun _ _ _ => trivial | (intro t ht w; cases ht; simp [upE])); (· intro w' hw' _; go_simp; with_reducible rfl); simp only [Act.put, List.setIfInBounds_toArray, List.set_cons_zero, List.set_cons_succ]))
          (refine' head_call ?cw6 ?ce6 ?cr6 ?cc6 ?ch6; (case' cw6 => rfl); (case' ce6 => (first | exact fun _ _ _ => trivial | (intro t ht w; cases ht; simp [upE]))); (case' cr6 => (intro w'; go_simp; first | exact ⟨rfl, rfl⟩ | with_reducible rfl)); (case' cc6 => (intro w' hw' _; exact refTurn y 19 (by omega) (by omega) w')); (case' ch6 => (try simp only [Act.put, List.setIfInBounds_toArray, List.set_cons_zero, List.set_cons_succ])))
          (iterate 5 (refine' head_val ?_ ?_ ?_ ?_; rotate_left; (· rfl); (· first | exact fun _ _ _ => trivial | (intro t ht w; cases ht; simp [upE])); (· intro w' hw' _; go_simp; with_reducible rfl); simp only [Act.put, List.setIfInBounds_toArray, List.set_cons_zero, List.set_cons_succ]))
          refine head_abs (V := fun v w' => ∃ g, v = .slice (some ⟨g, 0, none⟩) 1 1 ∧ w'.cell? ⟨g, 0, none⟩ = some (.int .u32 (w32 (x0 + (rotr x 7 ^^^ rotr x 18 ^^^ x >>> 3) + y0 + (rotr y 17 ^^^ rotr y 19 ^^^ y >>> 10))))) ?wa ?st ?dd ?hh
          case wa => rfl
          · rintro v w1 w2 ⟨g, rfl, hc⟩ hg
            exact ⟨g, rfl, grow_cell hc hg⟩
          · intro w1 hw1 _
            refine does_val (v := .slice (some ⟨w1.heap.size, 0, none⟩) 1 1) (w' := w1.alloc (.cells #[.int .u32 (w32 (x0 + (rotr x 7 ^^^ rotr x 18 ^^^ x >>> 3) + y0 + (rotr y 17 ^^^ rotr y 19 ^^^ y >>> 10)))] 153)) (by go_simp) ⟨grow_alloc _ _, _, rfl, ?_⟩
            exact (cells_block (cs := [.int .u32 (w32 (x0 + (rotr x 7 ^^^ rotr x 18 ^^^ x >>> 3) + y0 + (rotr y 17 ^^^ rotr y 19 ^^^ y >>> 10)))]) (tl := []) (heap_alloc_new _ _) 0 _ rfl)
          rintro v ⟨_, gz, rfl, _⟩
          simp only [Act.put, List.setIfInBounds_toArray, List.set_cons_zero, List.set_cons_succ]
          refine head_nil ?_
          intro w4 hw4 hE
          have hE81 := hE 81
          unfold upE at hE81
          rw [if_pos rfl] at hE81
          obtain ⟨gz', hgz, hcz⟩ := hE81
          obtain rfl : gz = gz' := by injection hgz with h1 h2 h3; injection h1 with h1; injection h1
          clear hE hgz
          have HB4 := hid (below_grow HB3.out HL3.out hw4)
          have HL4 := hid (Nat.le_trans HL3.out hw4.size)
          have HO4 := hid (own_grow HO3.out hw4)
          have HCZ := hid hcz
          generalize hz : x0 + (rotr x 7 ^^^ rotr x 18 ^^^ x >>> 3) + y0 + (rotr y 17 ^^^ rotr y 19 ^^^ y >>> 10) = z at *
          clear hz
          clear c1 c2 i1 i2 j1 j2 e1 e2 hw4 HB3 HL3 HO3 hcz
          go_wp2_with (at_builtin; refine app_cells (w0 := w) (B := w.heap.size) (.tmp 51) (.tmp 81) 139 153 (.int .u32 0) 1 4 _ n (u32s (sched b (n - 16))) [.int .u32 (w32 z)] ⟨gz, 0, none⟩ 1 1 rfl rfl Try.underlying139 infoU32 rfl (by decide) rfl rfl rfl ?h2 ?h3 HO4.out HB4.out HL4.out ?h5 ?h7 ?_)
          case h2 =>
            intro j u hj
            have hj0 : j = 0 := by
              rcases j with _ | j
              · rfl
              · simp at hj
            subst hj0
            injection hj with hj
            subst hj
            exact HCZ.out
          case h3 => simp [Value.oneCell']
          case h5 => omega
          case h7 => omega
          intro v' w5 hown' hb5 hs5
          have e5 : u32s (sched b (n - 16)) ++ [.int .u32 (w32 z)] = u32s (sched b (n + 1 - 16)) := by
            rw [show n + 1 - 16 = (n - 16) + 1 from by omega]
            show _ = u32s (sched b (n - 16) ++ [ext (sched b (n - 16)) (16 + (n - 16))])
            rw [u32s_append, show 16 + (n - 16) = n from by omega, ← HX.out]
            rfl
          rw [e5] at hown'
          have HO5 := hid hown'
          have HB5 := hid hb5
          have HS5 := hid hs5
          clear e5 hown' hb5 hs5
          go_wp2
          go_roundg (65 - (n + 1))
          case rel => exact ⟨n + 1, by omega, by omega, rfl, by go_num, HO5, HB5, HS5⟩
          case measure => omega
        · obtain rfl : n = 64 := by omega
          obtain ⟨wo, rfl⟩ : ∃ wo : World, wo = wr := ⟨_, rfl⟩
          obtain ⟨gv, cap, rfl, hgv, hcap⟩ := own_form hO.out (by omega)
          have HWS := hid (u32At_own hO.out)
          have HG := hid (show Grow w wo from hB.out)
          have HWL := hid hL.out
          clear hO hB hL hgv hcap hq hn0 hn hlt hk
          go_wp2_with (at_builtin; refine app_cells (w0 := wo) (B := wo.heap.size) (.tmp 84) (.tmp 85) 139 153 (.int .u32 0) 1 4 _ 0 [] (u32s h) adh 8 ch rfl rfl Try.underlying139 infoU32 rfl (by decide) rfl rfl (by rw [u32s_length, HH.out]) ?h2 (u32s_one _) (row_alloc _ _) ((Below.refl _ _).alloc (Nat.le_refl _) _) (by simp) (by omega) (by omega) ?_)
          case h2 => exact fun j u hj => u32At_news ((H8.out.grow HG.out).grow (grow_alloc _ _)) j u hj
          intro v3 w3 hown3 hb3 hs3
          obtain ⟨g3, c3, rfl, hg3, hc3⟩ := own_form hown3 (by omega)
          have HV3 := hid (u32At_own hown3)
          have HG3 := hid (show Grow wo w3 from hb3)
          clear hown3 hb3 hs3 hg3 hc3
          go_wp2_with fail
          go_loopg [12, 13] 65 (fun q v i wr => ∃ n g c : Nat, n ≤ 64 ∧ q = 65 - n ∧ i = .int .i64 n ∧ v = .slice (some ⟨g, 0, none⟩) 8 c ∧ Hid (U32At wr ⟨g, 0, none⟩ (rnds h (sched b 48) n)) ∧ Hid (Grow wo wr))
          case atStart => exact ⟨0, g3, c3, by omega, rfl, rfl, rfl, HV3, HG3⟩
          case round =>
            obtain ⟨n, g, c, hn, hq, rfl, rfl, hV, hGk⟩ := hrel
            clear HV3 HG3
            by_cases hlt : n < 64
            · have HRN := hid (refRnd_eq (rnds h (sched b 48) n) (shaK.getD n 0) ((sched b 48).getD n 0))
              have hl8 := rnds_length h (sched b 48) HH.out n
              have HCW := hid (fun w' (hw' : Grow wr w') => u32At_off ((HWS.out.grow hGk.out).grow hw') n (by rw [sched_length]; omega))
              have HCK := hid (fun w' (hw' : Grow wr w') => (((HK.out.grow HG.out).grow hGk.out).grow hw') n (by simpa [shaK] using hlt))
              have cg := fun j (hj : j < 8) w' (hw' : Grow wr w') => u32At_off (hV.out.grow hw') j (by rw [hl8]; exact hj)
              have HS8 := hid (rnds_succ h (sched b 48) n)
              generalize shaK.getD n 0 = kn at *
              generalize (sched b 48).getD n 0 = wn at *
              generalize hvs : rnds h (sched b 48) n = vs at *
              have q0 := cg 0 (by omega)
              have q1 := cg 1 (by omega)
              have q2 := cg 2 (by omega)
              have q3 := cg 3 (by omega)
              have q4 := cg 4 (by omega)
              have q5 := cg 5 (by omega)
              have q6 := cg 6 (by omega)
              have q7 := cg 7 (by omega)
              generalize vs.getD 0 0 = v0 at *
              generalize vs.getD 1 0 = v1 at *
              generalize vs.getD 2 0 = v2 at *
              generalize vs.getD 3 0 = v3 at *
              generalize vs.getD 4 0 = v4 at *
              generalize vs.getD 5 0 = v5 at *
              generalize vs.getD 6 0 = v6 at *
              generalize vs.getD 7 0 = v7 at *
              have Q0 := hid q0
              have Q1 := hid q1
              have Q2 := hid q2
              have Q3 := hid q3
              have Q4 := hid q4
              have Q5 := hid q5
              have Q6 := hid q6
              have Q7 := hid q7
              clear cg q0 q1 q2 q3 q4 q5 q6 q7 hvs
              have r0 := Q0.out
              have r4 := Q4.out
              go_wp2
              (refine' wp_region_head 8 0 [_, _, _, _, _, _, _, _] rfl (by kernel_rfl) (by kernel_rfl) ?hreg7; case' hreg7 => simp only [List.take_succ_cons, List.take_zero, List.zip_cons_cons, List.zip_nil_right, List.drop_succ_cons, List.drop_zero, List.drop_nil])
              (iterate 8 (refine' head_val ?_ ?_ ?_ ?_; rotate_left; (· rfl); (· first | exact fun _ _ _ => trivial | (intro t ht w; cases ht; simp [upE])); (· intro w' hw' _; go_simp; with_reducible rfl); simp only [Act.put, List.setIfInBounds_toArray, List.set_cons_zero, List.set_cons_succ]))
              refine head_nil ?_
              intro w7 hw7 _
              refine wpList_nil ?_
              clear r0 r4
              have GR7 := hid hw7
              have r5 := fun w' (hw' : Grow w7 w') => Q5.out w' (Grow.trans hw7 hw')
              have r6 := fun w' (hw' : Grow w7 w') => Q6.out w' (Grow.trans hw7 hw')
              have r7 := fun w' (hw' : Grow w7 w') => Q7.out w' (Grow.trans hw7 hw')
              have r8 := fun w' (hw' : Grow w7 w') => HCW.out w' (Grow.trans hw7 hw')
              have r9 := fun w' (hw' : Grow w7 w') => HCK.out w' (Grow.trans hw7 hw')
              have n0 : (0 : Int) ≤ (n : Int) := by omega
              have n1 : (n : Int) < 64 := by omega
              clear hw7
              go_wp2
              (refine' wp_region_head 36 0 [_, _, _, _, _, _, _, _, _, _, _, _, _, _, _, _, _, _, _, _, _, _, _, _, _, _, _, _, _, _, _, _, _, _, _, _] rfl (by kernel_rfl) (by kernel_rfl) ?hreg8; case' hreg8 => simp only [List.take_succ_cons, List.take_zero, List.zip_cons_cons, List.zip_nil_right, List.drop_succ_cons, List.drop_zero, List.drop_nil])
              (iterate 4 (refine' head_val ?_ ?_ ?_ ?_; rotate_left; (· rfl); (· first | exact fun _ _ _ => trivial | (intro t ht w; cases ht; simp [upE])); (· intro w' hw' _; go_simp; with_reducible rfl); simp only [Act.put, List.setIfInBounds_toArray, List.set_cons_zero, List.set_cons_succ]))
              (refine' head_call ?cw9 ?ce9 ?cr9 ?cc9 ?ch9; (case' cw9 => rfl); (case' ce9 => (first | exact fun _ _ _ => trivial | (intro t ht w; cases ht; simp [upE]))); (case' cr9 => (intro w'; go_simp; first | exact ⟨rfl, rfl⟩ | with_reducible rfl)); (case' cc9 => (intro w' hw' _; exact refTurn v4 6 (by omega) (by omega) w')); (case' ch9 => (try simp only [Act.put, List.setIfInBounds_toArray, List.set_cons_zero, List.set_cons_succ])))
              (iterate 1 (refine' head_val ?_ ?_ ?_ ?_; rotate_left; (· rfl); (· first | exact fun _ _ _ => trivial | (intro t ht w; cases ht; simp [upE])); (· intro w' hw' _; go_simp; with_reducible rfl); simp only [Act.put, List.setIfInBounds_toArray, List.set_cons_zero, List.set_cons_succ]))
              (refine' head_call ?cw10 ?ce10 ?cr10 ?cc10 ?ch10; (case' cw10 => rfl); (case' ce10 => (first | exact fun _ _ _ => trivial | (intro t ht w; cases ht; simp [upE]))); (case' cr10 => (intro w'; go_simp; first | exact ⟨rfl, rfl⟩ | with_reducible rfl)); (case' cc10 => (intro w' hw' _; exact refTurn v4 11 (by omega) (by omega) w')); (case' ch10 => (try simp only [Act.put, List.setIfInBounds_toArray, List.set_cons_zero, List.set_cons_succ])))
              (iterate 2 (refine' head_val ?_ ?_ ?_ ?_; rotate_left; (· rfl); (· first | exact fun _ _ _ => trivial | (intro t ht w; cases ht; simp [upE])); (· intro w' hw' _; go_simp; with_reducible rfl); simp only [Act.put, List.setIfInBounds_toArray, List.set_cons_zero, List.set_cons_succ]))
              (refine' head_call ?cw11 ?ce11 ?cr11 ?cc11 ?ch11; (case' cw11 => rfl); (case' ce11 => (first | exact fun _ _ _ => trivial | (intro t ht w; cases ht; simp [upE]))); (case' cr11 => (intro w'; go_simp; first | exact ⟨rfl, rfl⟩ | with_reducible rfl)); (case' cc11 => (intro w' hw' _; exact refTurn v4 25 (by omega) (by omega) w')); (case' ch11 => (try simp only [Act.put, List.setIfInBounds_toArray, List.set_cons_zero, List.set_cons_succ])))
              (iterate 26 (refine' head_val ?_ ?_ ?_ ?_; rotate_left; (· rfl); (· first | exact fun _ _ _ => trivial | (intro t ht w; cases ht; simp [upE])); (· intro w' hw' _; go_simp; with_reducible rfl); simp only [Act.put, List.setIfInBounds_toArray, List.set_cons_zero, List.set_cons_succ]))
              refine head_nil ?_
              intro w8 hw8 _
              refine wpList_nil ?_
              clear r5 r6 r7 r8 r9 n0 n1
              have GR8 := hid (Grow.trans GR7.out hw8)
              have r1 := fun w' (hw' : Grow w8 w') => Q1.out w' (Grow.trans GR8.out hw')
              have r2 := fun w' (hw' : Grow w8 w') => Q2.out w' (Grow.trans GR8.out hw')
              clear hw8
              generalize v7 + (rotr v4 6 ^^^ rotr v4 11 ^^^ rotr v4 25) + ((v4 &&& v5) ||| (~~~v4 &&& v6)) + kn + wn = X at *
              go_wp2
              (refine' wp_region_head 29 0 [_, _, _, _, _, _, _, _, _, _, _, _, _, _, _, _, _, _, _, _, _, _, _, _, _, _, _, _, _] rfl (by kernel_rfl) (by kernel_rfl) ?hreg12; case' hreg12 => simp only [List.take_succ_cons, List.take_zero, List.zip_cons_cons, List.zip_nil_right, List.drop_succ_cons, List.drop_zero, List.drop_nil])
              (iterate 1 (refine' head_val ?_ ?_ ?_ ?_; rotate_left; (· rfl); (· first | exact fun _ _ _ => trivial | (intro t ht w; cases ht; simp [upE])); (· intro w' hw' _; go_simp; with_reducible rfl); simp only [Act.put, List.setIfInBounds_toArray, List.set_cons_zero, List.set_cons_succ]))
              (refine' head_call ?cw13 ?ce13 ?cr13 ?cc13 ?ch13; (case' cw13 => rfl); (case' ce13 => (first | exact fun _ _ _ => trivial | (intro t ht w; cases ht; simp [upE]))); (case' cr13 => (intro w'; go_simp; first | exact ⟨rfl, rfl⟩ | with_reducible rfl)); (case' cc13 => (intro w' hw' _; exact refTurn v0 2 (by omega) (by omega) w')); (case' ch13 => (try simp only [Act.put, List.setIfInBounds_toArray, List.set_cons_zero, List.set_cons_succ])))
              (iterate 1 (refine' head_val ?_ ?_ ?_ ?_; rotate_left; (· rfl); (· first | exact fun _ _ _ => trivial | (intro t ht w; cases ht; simp [upE])); (· intro w' hw' _; go_simp; with_reducible rfl); simp only [Act.put, List.setIfInBounds_toArray, List.set_cons_zero, List.set_cons_succ]))
              (refine' head_call ?cw14 ?ce14 ?cr14 ?cc14 ?ch14; (case' cw14 => rfl); (case' ce14 => (first | exact fun _ _ _ => trivial | (intro t ht w; cases ht; simp [upE]))); (case' cr14 => (intro w'; go_simp; first | exact ⟨rfl, rfl⟩ | with_reducible rfl)); (case' cc14 => (intro w' hw' _; exact refTurn v0 13 (by omega) (by omega) w')); (case' ch14 => (try simp only [Act.put, List.setIfInBounds_toArray, List.set_cons_zero, List.set_cons_succ])))
              (iterate 2 (refine' head_val ?_ ?_ ?_ ?_; rotate_left; (· rfl); (· first | exact fun _ _ _ => trivial | (intro t ht w; cases ht; simp [upE])); (· intro w' hw' _; go_simp; with_reducible rfl); simp only [Act.put, List.setIfInBounds_toArray, List.set_cons_zero, List.set_cons_succ]))
              (refine' head_call ?cw15 ?ce15 ?cr15 ?cc15 ?ch15; (case' cw15 => rfl); (case' ce15 => (first | exact fun _ _ _ => trivial | (intro t ht w; cases ht; simp [upE]))); (case' cr15 => (intro w'; go_simp; first | exact ⟨rfl, rfl⟩ | with_reducible rfl)); (case' cc15 => (intro w' hw' _; exact refTurn v0 22 (by omega) (by omega) w')); (case' ch15 => (try simp only [Act.put, List.setIfInBounds_toArray, List.set_cons_zero, List.set_cons_succ])))
              (iterate 22 (refine' head_val ?_ ?_ ?_ ?_; rotate_left; (· rfl); (· first | exact fun _ _ _ => trivial | (intro t ht w; cases ht; simp [upE])); (· intro w' hw' _; go_simp; with_reducible rfl); simp only [Act.put, List.setIfInBounds_toArray, List.set_cons_zero, List.set_cons_succ]))
              refine head_nil ?_
              intro w9 hw9 _
              refine wpList_nil ?_
              clear r1 r2
              have GR9 := hid (Grow.trans GR8.out hw9)
              clear hw9
              have r0 := fun w' (hw' : Grow w9 w') => Q0.out w' (Grow.trans GR9.out hw')
              have r1 := fun w' (hw' : Grow w9 w') => Q1.out w' (Grow.trans GR9.out hw')
              have r2 := fun w' (hw' : Grow w9 w') => Q2.out w' (Grow.trans GR9.out hw')
              have r3 := fun w' (hw' : Grow w9 w') => Q3.out w' (Grow.trans GR9.out hw')
              have r4 := fun w' (hw' : Grow w9 w') => Q4.out w' (Grow.trans GR9.out hw')
              have r5 := fun w' (hw' : Grow w9 w') => Q5.out w' (Grow.trans GR9.out hw')
              have r6 := fun w' (hw' : Grow w9 w') => Q6.out w' (Grow.trans GR9.out hw')
              generalize (rotr v0 2 ^^^ rotr v0 13 ^^^ rotr v0 22) + ((v0 &&& v1) ||| (v0 &&& v2) ||| (v1 &&& v2)) = Y at *
              go_wp2
              (refine' wp_region_head 26 2 [_, _, _, _, _, _, _, _, _, _, _, _, _, _, _, _, _, _, _, _, _, _, _, _, _, _] rfl (by kernel_rfl) (by kernel_rfl) ?hreg16; case' hreg16 => simp only [List.take_succ_cons, List.take_zero, List.zip_cons_cons, List.zip_nil_right, List.drop_succ_cons, List.drop_zero, List.drop_nil])
              (iterate 26 (refine' head_val ?_ ?_ ?_ ?_; rotate_left; (· rfl); (· first | exact fun _ _ _ => trivial | (intro t ht w; cases ht; simp [upE])); (· intro w' hw' _; go_simp; with_reducible rfl); simp only [Act.put, List.setIfInBounds_toArray, List.set_cons_zero, List.set_cons_succ]))
              refine head_nil ?_
              intro w10 hw10 _
              have GR10 := hid (Grow.trans GR9.out hw10)
              clear r0 r1 r2 r3 r4 r5 r6 hw10
              go_wp2
              go_roundg (65 - (n + 1))
              case rel =>
                refine ⟨n + 1, w10.heap.size, 8, by omega, rfl, by go_num, rfl, ?_, hid ((hGk.out.trans GR10.out).trans (grow_alloc _ _))⟩
                rw [HS8.out, HRN.out]
                exact hid (u32At_alloc (l := [X + Y, v0, v1, v2, v3 + X, v4, v5, v6]) (heap_alloc_new _ _))
              case measure => omega
            · obtain rfl : n = 64 := by omega
              obtain ⟨wp, rfl⟩ : ∃ wp : World, wp = wr := ⟨_, rfl⟩
              have hl8 := rnds_length h (sched b 48) HH.out 64
              have HGP := hid (HG.out.trans hGk.out)
              have HPL := hid (Nat.le_trans HWL.out hGk.out.size)
              have HSA := hid (show shaAdd h b = addTo h (rnds h (sched b 48) 64) 8 from rfl)
              generalize rnds h (sched b 48) 64 = vs at *
              have HL8 := hid hl8
              clear hl8 HWS hq hn hlt hGk
              go_wp2_with fail
              go_loopg [18, 19] 9 (fun q v i wr => ∃ k : Nat, k ≤ 8 ∧ q = 9 - k ∧ i = .int .i64 k ∧ Hid (wr.ownsRow wp.heap.size 153 1 v k (u32s (addTo h vs k))) ∧ Hid (Below wp.heap.size wp wr) ∧ Hid (wp.heap.size ≤ wr.heap.size))
              case atStart => exact ⟨0, by omega, by omega, rfl, row_alloc _ _, (Below.refl _ _).alloc (Nat.le_refl _) _, hid (by simp)⟩
              case round =>
                obtain ⟨k, hk, hq, rfl, hO, hB, hL⟩ := hrel
                by_cases hlt : k < 8
                · have c1 := fun w' (hw' : Grow wr w') => (((H8.out.grow HGP.out).grow hB.out).grow hw') k (by rw [HH.out]; exact hlt)
                  have c2 := fun w' (hw' : Grow wr w') => u32At_off ((hV.out.grow hB.out).grow hw') k (by rw [HL8.out]; exact hlt)
                  have HX := hid (addTo_succ h vs k)
                  generalize h.getD k 0 = x at *
                  generalize vs.getD k 0 = y at *
                  have n0 : (0 : Int) ≤ (k : Int) := by omega
                  have n1 : (k : Int) < 8 := by omega
                  go_wp2
                  (refine' wp_region_head 11 2 [_, _, _, _, _, _, _, _, _, _, _] rfl (by kernel_rfl) (by kernel_rfl) ?hreg17; case' hreg17 => simp only [List.take_succ_cons, List.take_zero, List.zip_cons_cons, List.zip_nil_right, List.drop_succ_cons, List.drop_zero, List.drop_nil])
                  (iterate 10 (refine' head_val ?_ ?_ ?_ ?_; rotate_left; (· rfl); (· first | exact fun _ _ _ => trivial | (intro t ht w; cases ht; simp [upE])); (· intro w' hw' _; go_simp; with_reducible rfl); simp only [Act.put, List.setIfInBounds_toArray, List.set_cons_zero, List.set_cons_succ]))
                  refine head_abs (V := fun v w' => ∃ g, v = .slice (some ⟨g, 0, none⟩) 1 1 ∧ w'.cell? ⟨g, 0, none⟩ = some (.int .u32 (w32 (x + y)))) ?wa4 ?st4 ?dd4 ?hh4
                  case wa4 => rfl
                  · rintro v w1 w2 ⟨g, rfl, hc⟩ hg
                    exact ⟨g, rfl, grow_cell hc hg⟩
                  · intro w1 hw1 _
                    refine does_val (v := .slice (some ⟨w1.heap.size, 0, none⟩) 1 1) (w' := w1.alloc (.cells #[.int .u32 (w32 (x + y))] 153)) (by go_simp) ⟨grow_alloc _ _, _, rfl, ?_⟩
                    exact (cells_block (cs := [.int .u32 (w32 (x + y))]) (tl := []) (heap_alloc_new _ _) 0 _ rfl)
                  rintro v ⟨_, gz, rfl, _⟩
                  simp only [Act.put, List.setIfInBounds_toArray, List.set_cons_zero, List.set_cons_succ]
                  refine head_nil ?_
                  intro w4 hw4 hE
                  have hE81 := hE 202
                  unfold upE at hE81
                  rw [if_pos rfl] at hE81
                  obtain ⟨gz', hgz, hcz⟩ := hE81
                  obtain rfl : gz = gz' := by injection hgz with h1 h2 h3; injection h1 with h1; injection h1
                  clear hE hgz
                  have HB4 := hid (below_grow hB.out hL.out hw4)
                  have HL4 := hid (Nat.le_trans hL.out hw4.size)
                  have HO4 := hid (own_grow hO.out hw4)
                  have HCZ := hid hcz
                  clear c1 c2 n0 n1 hw4 hcz
                  go_wp2_with (at_builtin; refine app_cells (w0 := wp) (B := wp.heap.size) (.tmp 192) (.tmp 202) 139 153 (.int .u32 0) 1 4 _ k (u32s (addTo h vs k)) [.int .u32 (w32 (x + y))] ⟨gz, 0, none⟩ 1 1 rfl rfl Try.underlying139 infoU32 rfl (by decide) rfl rfl rfl ?g2 ?g3 HO4.out HB4.out HL4.out ?g5 ?g7 ?_)
                  case g2 =>
                    intro j u hj
                    have hj0 : j = 0 := by
                      rcases j with _ | j
                      · rfl
                      · simp at hj
                    subst hj0
                    injection hj with hj
                    subst hj
                    exact HCZ.out
                  case g3 => simp [Value.oneCell']
                  case g5 => omega
                  case g7 => omega
                  intro v' w5 hown' hb5 hs5
                  have e5 : u32s (addTo h vs k) ++ [.int .u32 (w32 (x + y))] = u32s (addTo h vs (k + 1)) := by
                    rw [HX.out, u32s_append]
                    rfl
                  rw [e5] at hown'
                  have HO5 := hid hown'
                  have HB5 := hid hb5
                  have HS5 := hid hs5
                  clear e5 hown' hb5 hs5
                  go_wp2
                  go_roundg (9 - (k + 1))
                  case rel => exact ⟨k + 1, by omega, rfl, by go_num, HO5, HB5, HS5⟩
                  case measure => omega
                · obtain rfl : k = 8 := by omega
                  go_wp2_with fail
                  refine bodyPost_ret (results_tmp rfl _ _ _) rfl ?_
                  refine ⟨_, rfl, ?_, HGP.out.trans hB.out⟩
                  rw [HSA.out]
                  exact own_base hO.out HPL.out
end Go.Proofs.Ytkibibgbmkejjaa
