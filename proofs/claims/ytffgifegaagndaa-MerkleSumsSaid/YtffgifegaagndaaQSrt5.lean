/- id.Sort. -/
import Derived.Test.YtffgifegaagndaaQSrt2
import Derived.Test.YtffgifegaagndaaQSrt4
import Derived.Test.YtffgifegaagndaaQKeyC
set_option linter.unusedSimpArgs false
set_option linter.unusedVariables false
namespace Go.Proofs.Ytffgifegaagndaa
open Go.RowKit
open Go.Qk hiding rotr b4
set_option maxHeartbeats 1000000
set_option maxRecDepth 100000
theorem compact_upTo (ys : List (List UInt8)) (h32 : ∀ s ∈ ys, s.length = 32) (hs : ∀ i j, i < j → j < ys.length → lexLess (ys.getD j []) (ys.getD i []) = false) :
    ∀ m, m ≤ ys.length → Rises (cmpUpTo ys m) ∧ ∀ x, x ∈ cmpUpTo ys m ↔ ∃ i, i < m ∧ ys.getD i [] = x
  | 0, _ => ⟨List.Pairwise.nil, fun x => by simp [cmpUpTo]⟩
  | m + 1, hm => by
    obtain ⟨h1, h2⟩ := compact_upTo ys h32 hs m (by omega)
    rw [cmpUpTo_succ]
    cases hk : keepB ys m with
    | false =>
      have hk2 : 0 < m ∧ ys.getD m [] = ys.getD (m - 1) [] := by
        unfold keepB at hk
        rw [Bool.or_eq_false_iff] at hk
        exact ⟨by have := hk.1; simp at this; omega, by have := hk.2; simpa using this⟩
      rw [if_neg (by simp), List.append_nil]
      refine ⟨h1, fun x => ?_⟩
      rw [h2 x]
      constructor
      · rintro ⟨i, hi, e⟩
        exact ⟨i, by omega, e⟩
      · rintro ⟨i, hi, e⟩
        by_cases him : i = m
        · subst him
          exact ⟨i - 1, by omega, by rw [← hk2.2]; exact e⟩
        · exact ⟨i, by omega, e⟩
    | true =>
      rw [if_pos rfl]
      refine ⟨?_, fun x => ?_⟩
      · refine List.pairwise_append.2 ⟨h1, List.pairwise_singleton _ _, fun a ha b hb => ?_⟩
        obtain rfl : b = ys.getD m [] := by simpa using hb
        obtain ⟨i, hi, rfl⟩ := (h2 a).1 ha
        cases hl : lexLess (ys.getD i []) (ys.getD m []) with
        | true => rfl
        | false =>
          exfalso
          have li := getD_mem_len h32 (show i < ys.length by omega)
          have lm := getD_mem_len h32 (show m < ys.length by omega)
          have lp := getD_mem_len h32 (show m - 1 < ys.length by omega)
          have e1 := lexLess_tri _ _ (by rw [li, lm]) hl (hs i m hi (by omega))
          have hne : ys.getD m [] ≠ ys.getD (m - 1) [] := by
            unfold keepB at hk
            rw [show (m == 0) = false by simp; omega, Bool.false_or] at hk
            simpa using hk
          by_cases him : i = m - 1
          · subst him; exact hne e1.symm
          · have h3 := hs i (m - 1) (by omega) (by omega)
            have h4 := hs (m - 1) m (by omega) (by omega)
            rw [← e1] at h4 hne
            exact hne (lexLess_tri _ _ (by rw [li, lp]) h4 h3)
      · rw [List.mem_append, h2 x]
        constructor
        · rintro (⟨i, hi, e⟩ | h)
          · exact ⟨i, by omega, e⟩
          · exact ⟨m, by omega, by simpa using (List.mem_singleton.1 h).symm⟩
        · rintro ⟨i, hi, e⟩
          by_cases him : i = m
          · subst him; exact .inr (by rw [e]; exact List.mem_singleton.2 rfl)
          · exact .inl ⟨i, by omega, e⟩
theorem compact_sort (xs ys : List (List UInt8)) (h32 : ∀ s ∈ xs, s.length = 32) (hm : ∀ x, x ∈ ys ↔ x ∈ xs) (hs : ys.Pairwise fun a b => lexLess b a = false) : compactL ys = sortL xs := by
  have g32 : ∀ s ∈ ys, s.length = 32 := fun s hs => h32 s ((hm s).1 hs)
  have hs2 : ∀ i j, i < j → j < ys.length → lexLess (ys.getD j []) (ys.getD i []) = false := by
    intro i j hij hj
    have := List.pairwise_iff_getElem.1 hs i j (by omega) hj hij
    simpa [hj, show i < ys.length by omega] using this
  obtain ⟨h1, h2⟩ := compact_upTo ys g32 hs2 ys.length (Nat.le_refl _)
  refine rises_ext _ _ h1 (sortL_rises xs h32) (fun x => ?_)
  rw [mem_sortL xs h32, ← hm x]
  refine (h2 x).trans ?_
  constructor
  · rintro ⟨i, hi, rfl⟩
    have : ys.getD i [] = ys[i] := by simp [hi]
    rw [this]
    exact List.getElem_mem _
  · intro hx
    obtain ⟨i, hi, rfl⟩ := List.mem_iff_getElem.1 hx
    exact ⟨i, hi, by simp [hi]⟩
theorem sorted32_mem (ds : List Id32) (x : List UInt8) : x ∈ (sorted32 ds).map (·.1) ↔ x ∈ ds.map (·.1) := by
  simp only [List.mem_map, sorted32, List.mem_mergeSort]
theorem sorted32_le (ds : List Id32) : ((sorted32 ds).map (·.1)).Pairwise fun a b => lexLess b a = false := by
  have h : (sorted32 ds).Pairwise fun x y => (!(Go.Proofs.ltOf cf32) y x) = true := by
    refine List.pairwise_mergeSort ?_ ?_ ds
    · intro a b c h1 h2
      have := swo32.ntrans c b a (by simpa using h2) (by simpa using h1)
      simpa using this
    · intro a b
      cases h : Go.Proofs.ltOf cf32 b a with
      | false => simp
      | true =>
        rw [lt32] at h
        have := lexLess_asymm _ _ h
        rw [lt32, this]
        simp
  refine List.pairwise_map.2 (h.imp fun {x y} hxy => ?_)
  rw [← lt32]
  simpa using hxy
/-- slices.SortFunc(out, compare). -/
theorem sortIds {B : Nat} {v : Value} (xs : List (List UInt8)) (hmax : xs.length ≤ 1000000) (w : World) (hB : B ≤ w.heap.size) (hx : OwnIds 23 B w v xs) :
    Calls Try.prog 118 #[v, .func (.func 119) #[] #[]] w fun e w' =>
      e = .returned (.tuple #[]) ∧ ∃ ys, OwnIds 23 B w' v ys ∧ Below B w w' ∧ compactL ys = sortL xs ∧ ys.length = xs.length := by
  obtain ⟨ds, hd⟩ := ex32 xs hx.2
  rcases hx.1.2 with ⟨rfl, h0⟩ | ⟨g, cap, cur, rfl, hBg, hg, h1, h2, h3, h4⟩
  · obtain rfl : xs = [] := List.eq_nil_of_length_eq_zero h0
    refine (AnyF.slices_SortFunc_none (P := Try.prog) { Try.sortId with } none 0 (.func (.func 119) #[] #[]) w).mono ?_
    rintro e w' ⟨rfl, rfl⟩
    exact ⟨rfl, [], hx, Below.refl _ _, rfl, rfl⟩
  · have hl : ds.length = xs.length := by rw [← hd, List.length_map]
    rw [← hl]
    refine (sortFunc ds hBg hg (by rw [hl]; exact h1) h2 h3 (by rw [hl, hd]; exact h4) (by rw [hl]; exact hmax)).mono ?_
    rintro e w' ⟨rfl, ho, hgb⟩
    refine ⟨rfl, _, ho, Below.grown (Below.refl _ _) hgb hB (fun k hk => by injection hk with hk; omega), compact_sort xs _ hx.2 (fun x => by rw [sorted32_mem, hd]) (sorted32_le ds), ?_⟩
    rw [List.length_map, hl]
    unfold sorted32
    rw [List.length_mergeSort, hl]
theorem compactIds {B : Nat} {v : Value} (xs : List (List UInt8)) (hmax : xs.length ≤ 1000000) (w : World) (hB : B ≤ w.heap.size) (hx : OwnIds 23 B w v xs) :
    Calls Try.prog 120 #[v] w fun e w' => ∃ v', e = .returned v' ∧ OwnIds 23 B w' v' (compactL xs) ∧ Below B w w' := by
  by_cases h2 : xs.length < 2
  · obtain ⟨⟨A, c, rfl, hr⟩, h32⟩ := hx.sl
    have HX := hid hx
    have HB2 := hid hB
    have HE := hid (compactL_small xs h2)
    obtain ⟨n, hn⟩ : ∃ n, n = xs.length := ⟨_, rfl⟩
    rw [← hn] at HX h2 ⊢
    have t1 : decide ((n : Int) < 2) = true := by simp; omega
    clear hx hr h32 hB
    go_enter Try.func120, Try.ntmps120
    have HB := hid (grow_refl w)
    go_wp2_with fail
    go_ret
    exact ⟨_, rfl, by rw [HE.out]; exact HX.out.grow HB.out, HB.out.mono HB2.out⟩
  · rcases hx.1.2 with ⟨rfl, h0⟩ | ⟨g, cap, cur, rfl, hBg, hg, h1, hm, h3, h4⟩
    · omega
    · have hcur : cur = (idCells xs ++ cur.toList.drop (xs.length * 32)).toArray := by rw [← h4, List.take_append_drop, Array.toArray_toList]
      have hmx : maxLen = 9223372036854775807 := rfl
      refine (compactBlk (ad := ⟨g, 0, none⟩) (cap := cap) rfl hBg xs (cur.toList.drop (xs.length * 32)) rfl (by omega) h1 (by omega) hmax hx.2 w w ⟨Below.refl _ _, hB, by rw [← hcur]; exact hg⟩).mono ?_
      rintro e w' ⟨zs, hz, rfl, hs⟩
      have c32 := cmpUpTo_32 xs hx.2 xs.length (Nat.le_refl _)
      have hcl := cmpUpTo_length xs xs.length
      have hlen := idCells_length (compactL xs) c32
      refine ⟨_, rfl, ⟨⟨?_, .inr ⟨g, cap, _, rfl, hBg, hs.blk, ?_, hm, ?_, ?_⟩⟩, c32⟩, hs.bel⟩
      · exact hlen
      · exact Nat.le_trans hcl h1
      · have : cur.toList.length = cap * 32 := by simpa using h3
        rw [List.size_toArray, List.length_append, List.length_append, hlen, hz, List.length_drop, this]
        unfold compactL at *
        omega
      · rw [List.toList_toArray, ← hlen, List.take_left]
theorem idSort (A : Option Addr) (n c : Nat) (xs : List (List UInt8)) (w : World) (hx : IdRow w A xs) (hn : xs.length = n) (h32 : ∀ s ∈ xs, s.length = 32) (hmax : n ≤ 1000000) :
    Calls Try.prog 59 #[.slice A n c] w (RetIds w.heap.size w (sortL xs)) := by
  have HX := hid hx
  have HN := hid hn
  have H32 := hid h32
  have HM := hid hmax
  clear hx hn h32 hmax
  go_enter Try.func59, Try.ntmps59
  have HB := hid (grow_refl w)
  go_wp2_with fail
  refine (idsClone A n c xs _ HX.out HN.out H32.out HM.out).mono ?_
  rintro e w1 ⟨v, rfl, ho, hb⟩
  have HO := hid ho
  replace HB := hid hb
  clear ho hb
  go_wp2_with fail
  refine (sortIds xs (by rw [HN.out]; exact HM.out) _ HB.out.size HO.out).mono ?_
  rintro e w2 ⟨rfl, ys, ho, hb, hc, hl⟩
  replace HO := hid ho
  have HC := hid hc
  have HL := hid hl
  have HSZ := hid (Nat.le_trans HB.out.size hb.size)
  replace HB := hid (HB.out.trans hb)
  clear ho hb hc hl
  go_wp2_with fail
  refine (compactIds ys (by rw [HL.out, HN.out]; exact HM.out) _ HSZ.out HO.out).mono ?_
  rintro e w3 ⟨v3, rfl, ho, hb⟩
  replace HO := hid ho
  replace HB := hid (HB.out.trans hb)
  clear ho hb
  go_wp2_with fail
  go_ret
  exact ⟨_, rfl, by rw [← HC.out]; exact HO.out, HB.out⟩
end Go.Proofs.Ytffgifegaagndaa
