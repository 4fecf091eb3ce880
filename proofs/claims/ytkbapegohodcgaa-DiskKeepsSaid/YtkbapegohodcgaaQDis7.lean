/- The law DiskKeeps. -/
import Derived.Test.YtkbapegohodcgaaQDis6
set_option linter.unusedSimpArgs false
set_option linter.unusedVariables false
namespace Go.Proofs.Ytkbapegohodcgaa
open Go.RowKit
open Go.Qk hiding rotr b4
set_option maxHeartbeats 2000000
set_option maxRecDepth 100000
def sAll (ls : List UInt8) (xs : List ByteArray) : Nat → List UInt8
  | 0 => ls
  | k + 1 => sAll ls xs k ++ bl (xs.getD k ByteArray.empty)
def wAll (ls : List UInt8) (xs : List ByteArray) : Nat → List (Nat × List UInt8)
  | 0 => []
  | k + 1 => addW (wAll ls xs k) (sAll ls xs k).length (bl (xs.getD k ByteArray.empty))
def shortTo (xs : List ByteArray) (k : Nat) : Prop := ∀ i, i < k → (xs.getD i ByteArray.empty).size ≤ 200
theorem sAll_le (ls : List UInt8) (xs : List ByteArray) (h0 : ls.length ≤ 200) : ∀ k, shortTo xs k → (sAll ls xs k).length ≤ 200 + 200 * k
  | 0, _ => by unfold sAll; omega
  | k + 1, h => by
    have ih := sAll_le ls xs h0 k (fun i hi => h i (by omega))
    have := h k (by omega)
    unfold sAll
    rw [List.length_append, bl_length]; omega
theorem sAll_ge (ls : List UInt8) (xs : List ByteArray) : ∀ k, ls.length ≤ (sAll ls xs k).length
  | 0 => Nat.le_refl _
  | k + 1 => by have := sAll_ge ls xs k; unfold sAll; rw [List.length_append]; omega
theorem wAll_len (ls : List UInt8) (xs : List ByteArray) : ∀ k, (wAll ls xs k).length ≤ k
  | 0 => Nat.le_refl _
  | k + 1 => by have := wAll_len ls xs k; unfold wAll addW; split <;> simp <;> omega
theorem wAll_mem (ls : List UInt8) (xs : List ByteArray) (h0 : ls.length ≤ 200) : ∀ k, shortTo xs k → ∀ x ∈ wAll ls xs k, ls.length ≤ x.1 ∧ x.1 + x.2.length ≤ 200 + 200 * k
  | 0, _ => fun x hx => by cases hx
  | k + 1, h => fun x hx => by
    have ih := wAll_mem ls xs h0 k (fun i hi => h i (by omega))
    have h1 := sAll_le ls xs h0 k (fun i hi => h i (by omega))
    have h2 := sAll_ge ls xs k
    have h3 := h k (by omega)
    unfold wAll addW at hx
    split at hx
    · have := ih x hx; omega
    · rcases List.mem_append.1 hx with hx | hx
      · have := ih x hx; omega
      · obtain rfl := List.mem_singleton.1 hx
        simp only [bl_length]
        omega
theorem diskKeeps (ls : List UInt8) (hs9 : ls.length ≤ 140737488355328) (A : Option Addr) (n c : Nat) (xs : List ByteArray) (m : Int) (hm0 : 0 ≤ m) (hm1 : m ≤ 18446744073709551615) (count : Int) (w : World) (hx : StrRow w A xs) (hn : xs.length = n) (hsa : ∀ s ∈ xs, s.size ≤ 9223372036854775807) :
    Calls Try.prog 3 #[.string (bs ls), .slice A n c, .int .u64 m, .int .i64 count] w fun e w' => e = .returned (.bool true) ∧ Below w.heap.size w w' := by
  subst hn
  have hxl := hx.1
  have hsz := bs_size ls
  by_cases hlong : 200 < ls.length ∨ 80 < xs.length
  · clear hx hsa
    by_cases h1 : 200 < ls.length
    · go_enter Try.func3, Try.ntmps3
      have HB := hid (grow_refl w)
      go_wp2_with fail
      refine (awake24 _).mono ?_
      rintro e w1 ⟨rfl, hb⟩
      have HB1 := hid hb
      clear hb
      go_wp2_with fail
      go_ret
      exact ⟨rfl, HB1.out⟩
    · have h2 : 80 < xs.length := by omega
      go_enter Try.func3, Try.ntmps3
      have HB := hid (grow_refl w)
      go_wp2_with fail
      refine (awake24 _).mono ?_
      rintro e w1 ⟨rfl, hb⟩
      have HB1 := hid hb
      clear hb
      go_wp2_with fail
      go_ret
      exact ⟨rfl, HB1.out⟩
  · have h1 : ls.length ≤ 200 := by omega
    have h2 : xs.length ≤ 80 := by omega
    have HX := hid hx
    have HSA := hid hsa
    clear hx hsa hlong
    go_enter Try.func3, Try.ntmps3
    have HB := hid (grow_refl w)
    clear HB
    go_wp2_with fail
    refine (dkNew _).mono ?_
    rintro e w1 ⟨g, rfl, hk, hb⟩
    have HK := hid hk
    have HB1 := hid hb
    clear hk hb
    go_wp2_with fail
    refine (dkAppend g w.heap.size _ _ _ [] [] ls [] _ (by simp; omega) (by decide) HK.out HB1.out.size).mono ?_
    rintro e w2 ⟨rfl, sv, wv, hk, hb⟩
    have HK2 := hid (show IsDisk w.heap.size w2 g _ sv wv [] ls _ false by simpa using hk)
    have HB2 := hid (HB1.out.trans hb)
    clear hk hb HK HB1
    go_wp2_with fail
    refine (dkSync g w.heap.size _ _ _ _ _ _ _ (by omega) HB2.out.size HK2.out).mono ?_
    rintro e w3 ⟨rfl, kv, hk, hf, _⟩
    have HK3 := hid hk
    have HB3 := hid (HB2.out.trans (hf.below (B := w.heap.size) (fun k hk => by subst hk; exact HK2.out.gB) HB2.out.size))
    clear hk hf HK2 HB2
    go_wp2_with fail
    go_loopg [11, 38] (xs.length + 1) (fun z y x wr => ∃ (i : Nat) (sv wv : Value), i ≤ xs.length ∧ z = xs.length + 1 - i ∧ x = .int .i64 (i : Int) ∧ Hid (shortTo xs i) ∧ Hid (IsDisk w.heap.size wr g kv sv wv ls (sAll ls xs i) (wAll ls xs i) false) ∧ Hid (Below w.heap.size w wr))
    case atStart => exact ⟨0, sv, _, by omega, by omega, rfl, hid (fun i hi => by omega), HK3, HB3⟩
    case round =>
      clear HK3 HB3
      obtain ⟨i, sv, wv, hi, hz, rfl, HSH, HK, HB⟩ := hrel
      by_cases hlt : i < xs.length
      · have i0 : (0 : Int) ≤ (i : Int) := by omega
        have i1 : (i : Int) < (xs.length : Int) := by omega
        obtain ⟨ad, rfl, hc⟩ := HX.out.at_ i hlt
        have hc' : wr.cell? (ad.add i) = some (.string (xs.getD i ByteArray.empty)) := (HB.out.cell (block_lt_of_cell hc)).trans hc
        have HSI := hid (show (xs.getD i ByteArray.empty).size ≤ 9223372036854775807 from HSA.out _ (by rw [List.getD_eq_getElem?_getD, List.getElem?_eq_getElem hlt]; simp))
        have HXI := hid (rfl : bl (xs.getD i ByteArray.empty) = bl (xs.getD i ByteArray.empty))
        clear hc
        by_cases h3 : 200 < (xs.getD i ByteArray.empty).size
        · have hb9 := HSI.out
          generalize xs.getD i ByteArray.empty = x at *
          go_wp2_with fail
          refine (awake24 _).mono ?_
          rintro e w1 ⟨rfl, hb⟩
          have HB1 := hid (HB.out.trans (hb.mono HB.out.size))
          clear hb
          go_wp2_with fail
          go_ret
          exact ⟨rfl, HB1.out⟩
        · have h3' : (xs.getD i ByteArray.empty).size ≤ 200 := by omega
          have HS1 := hid (show shortTo xs (i + 1) from fun k hk => by
            by_cases e : k = i
            · subst e; exact h3'
            · exact HSH.out k (by omega))
          have HLE := hid (sAll_le ls xs h1 i HSH.out)
          have HWL := hid (wAll_len ls xs i)
          have HSS := hid (show sAll ls xs (i + 1) = sAll ls xs i ++ bl (xs.getD i ByteArray.empty) from rfl)
          have HWW := hid (show wAll ls xs (i + 1) = addW (wAll ls xs i) (sAll ls xs i).length (bl (xs.getD i ByteArray.empty)) from rfl)
          obtain ⟨A2, c2, rfl, _⟩ := own_sl HK.out.s
          have hxs : xs.getD i ByteArray.empty = bs (bl (xs.getD i ByteArray.empty)) := (bs_bl _).symm
          have hxz : (xs.getD i ByteArray.empty).size = (bl (xs.getD i ByteArray.empty)).length := (bl_length _).symm
          rw [hxz] at h3 h3'
          rw [hxs] at hc'
          clear hxs hxz
          generalize bl (xs.getD i ByteArray.empty) = x at *
          have hxz := bs_size x
          go_wp2_with fail
          refine (dkLen g kv wv A2 _ c2 false _ HK.out.blk).mono ?_
          rintro e w4 ⟨rfl, rfl⟩
          go_wp2_with fail
          refine (dkAppend g w.heap.size kv _ wv ls (sAll ls xs i) x (wAll ls xs i) _ (by have := HLE.out; omega) (by have := HWL.out; omega) HK.out HB.out.size).mono ?_
          rintro e w5 ⟨rfl, sv5, wv5, hk, hb⟩
          have HK5 := hid (show IsDisk w.heap.size w5 g kv sv5 wv5 ls (sAll ls xs (i + 1)) (wAll ls xs (i + 1)) false by rw [HSS.out, HWW.out]; exact hk)
          have HB5 := hid (HB.out.trans hb)
          clear hk hb HK HB hc'
          go_wp2_with fail
          go_roundg (xs.length + 1 - (i + 1))
          case rel => exact ⟨i + 1, sv5, wv5, by omega, rfl, by go_num, HS1, HK5, HB5⟩
          case measure => omega
      · obtain rfl : i = xs.length := by omega
        have HLE := hid (sAll_le ls xs h1 xs.length HSH.out)
        have HGE := hid (sAll_ge ls xs xs.length)
        have HWL := hid (wAll_len ls xs xs.length)
        have HWM := hid (wAll_mem ls xs h1 xs.length HSH.out)
        clear hlt
        generalize sAll ls xs xs.length = S at *
        generalize wAll ls xs xs.length = L at *
        go_wp2_with fail
        refine (dkCopy g w.heap.size kv sv wv ls S L _ (by omega) (by have := HLE.out; omega) (by have := HWL.out; omega) HK.out).mono ?_
        rintro e w4 ⟨g', kv', sv', wv', rfl, hg4, hgl4, hk4, hw4, hb4⟩
        have HG4 := hid hg4
        have HGL4 := hid hgl4
        have HK4 := hid hk4
        have HW4 := hid hw4
        have HD4 := hid (HK.out.grow hb4)
        have HB4 := hid (HB.out.trans (hb4.mono HB.out.size))
        have HSZ := hid hb4.size
        have HSW := hid HB.out.size
        have HLG := hid (blk_lt HK.out.blk)
        have HLK := hid (fun k hk => (own_lt HK.out.k hk).2 : ∀ k, kv.ownBlock = some k → k < wr.heap.size)
        have HLS := hid (fun k hk => (own_lt HK.out.s hk).2 : ∀ k, sv.ownBlock = some k → k < wr.heap.size)
        have HLW := hid (fun k hk => (own_lt HK.out.l hk).2 : ∀ k, wv.ownBlock = some k → k < wr.heap.size)
        clear hg4 hgl4 hk4 hw4 hb4 HK HB
        unfold ptrV
        go_wp2_with fail
        refine (dkKept g kv sv wv ls _ _ _ HD4.out.blk HD4.out.k).mono ?_
        rintro e w5 ⟨rfl, rfl⟩
        go_wp2_with fail
        refine (dkCrash g' wr.heap.size kv' sv' wv' ls L _ 0 (by decide) (by decide) 0 (by omega) (fun x hx => by have := (HWM.out x hx).2; omega) (by have := HWL.out; omega) HG4.out HGL4.out HK4.out HW4.out HSZ.out).mono ?_
        rintro e w5 ⟨rfl, kv5, sv5, hg5, hk5, hs5, hf5⟩
        have HG5 := hid hg5
        have HS5 := hid (show Buf 5 wr.heap.size w5 sv5 ls by
          have e0 : (max (0 : Int) 0).toNat = 0 := by decide
          rw [e0, crashX_zero] at hs5; exact hs5)
        have hbC : ∀ k, (k = g' ∨ kv'.ownBlock = some k) → wr.heap.size ≤ k := fun k hk => by
          rcases hk with rfl | hk
          · exact HGL4.out
          · exact (own_lt HK4.out hk).1
        have HD5 := hid (Fr.isDisk HD4.out hf5 (fun h => by have := hbC _ h; have := HLG.out; omega) (fun k hk h => by have := hbC _ h; have := HLK.out k hk; omega) (fun k hk h => by have := hbC _ h; have := HLS.out k hk; omega) (fun k hk h => by have := hbC _ h; have := HLW.out k hk; omega))
        have HB5 := hid (HB4.out.trans (hf5.below (B := w.heap.size) (fun k hk => Nat.le_trans HSW.out (hbC k hk)) HB4.out.size))
        clear hg5 hk5 hs5 hf5 hbC HD4 HB4 HG4 HK4 HW4
        go_wp2_with fail
        refine (dkCrash g w.heap.size kv sv wv ls L _ m hm0 hm1 count (by omega) (fun x hx => by have := (HWM.out x hx).2; omega) (by have := HWL.out; omega) HD5.out.blk HD5.out.gB HD5.out.k HD5.out.l HB5.out.size).mono ?_
        rintro e w6 ⟨rfl, kv6, sv6, hg6, hk6, hs6, hf6⟩
        have hbD : ∀ k, (k = g ∨ kv.ownBlock = some k) → k < wr.heap.size ∧ w.heap.size ≤ k := fun k hk => by
          rcases hk with rfl | hk
          · exact ⟨HLG.out, HD5.out.gB⟩
          · exact ⟨HLK.out k hk, (own_lt HD5.out.k hk).1⟩
        have HC6 := hid (hf6.blk HG5.out (fun h => by have := hbD _ h; have := HGL4.out; omega))
        have HCS6 := hid (show Buf 5 wr.heap.size w6 sv5 ls from hf6.own HS5.out (fun k hk h => by have := hbD _ h; have := (own_lt HS5.out hk).1; omega))
        have HG6 := hid hg6
        obtain ⟨tl, htl⟩ := crashX_pre (bitU m) (max count 0).toNat L ls ls (List.prefix_refl _) (fun x hx => (HWM.out x hx).1)
        have HTL := hid (htl.symm)
        have HS6 := hid (show Buf 5 w.heap.size w6 sv6 (ls ++ tl) by rw [htl]; exact hs6)
        have HB6 := hid (HB5.out.trans (hf6.below (B := w.heap.size) (fun k hk => (hbD k hk).2) HB5.out.size))
        clear hg6 hk6 hs6 hf6 hbD htl HD5 HB5 HG5 HS5
        go_wp2_with fail
        refine (dkAll g' _ _ _ ls _ _ _ HC6.out HCS6.out).mono ?_
        rintro e w7 ⟨rfl, rfl⟩
        go_wp2_with fail
        obtain ⟨A6, c6, rfl, _⟩ := own_sl HS6.out
        refine (dkLen g _ _ A6 _ c6 _ _ HG6.out).mono ?_
        rintro e w7 ⟨rfl, rfl⟩
        have hN : (ls ++ tl).length = ls.length + tl.length := List.length_append
        have hex : (bs (ls ++ tl)).extract 0 ls.length = bs ls := by rw [bs_extract]; simp
        have hNZ : (bs (ls ++ tl)).size = ls.length + tl.length := by rw [bs_size, hN]
        go_wp2_with fail
        refine (dkAll g _ _ _ (ls ++ tl) _ _ _ HG6.out HS6.out).mono ?_
        rintro e w7 ⟨rfl, rfl⟩
        go_wp2_with fail
        refine (awake24 _).mono ?_
        rintro e w7 ⟨rfl, hb⟩
        have HB7 := hid (HB6.out.trans (hb.mono HB6.out.size))
        clear hb
        go_wp2_with fail
        go_ret
        exact ⟨rfl, HB7.out⟩
theorem u64_lo {a : Int} (h : (Lit.int .u64 a).wf = true) : 0 ≤ a := by
  simp [Lit.wf] at h
  have : IntKind.u64.min = 0 := rfl
  omega
theorem u64_hi {a : Int} (h : (Lit.int .u64 a).wf = true) : a ≤ 18446744073709551615 := by
  simp [Lit.wf] at h
  have : IntKind.u64.max = 18446744073709551615 := rfl
  omega
theorem diskKeepsB (s : ByteArray) (hs : s.size ≤ 140737488351232) (A : Option Addr) (n c : Nat) (xs : List ByteArray) (m : Int) (hm0 : 0 ≤ m) (hm1 : m ≤ 18446744073709551615) (count : Int) (w : World) (hx : StrRow w A xs) (hn : xs.length = n) (hsa : ∀ s ∈ xs, s.size ≤ 9223372036854775807) :
    Calls Try.prog 3 #[.string s, .slice A n c, .int .u64 m, .int .i64 count] w fun e w' => e = .returned (.bool true) ∧ Below w.heap.size w w' := by
  have := diskKeeps (bl s) (by rw [bl_length]; omega) A n c xs m hm0 hm1 count w hx hn hsa
  rw [bs_bl] at this
  exact this
end Go.Proofs.Ytkbapegohodcgaa
