/- pack.Reader.Num where nothing was wrong: contract. -/
import Derived.Test.YtabkaflccaklhaaQPac2
set_option linter.unusedSimpArgs false
set_option linter.unusedVariables false
namespace Go.Proofs.Ytabkaflccaklhaa
open Go.RowKit
open Go.Qk hiding rotr b4
open Pac
set_option maxHeartbeats 1000000
set_option maxRecDepth 100000
theorem frame64 (T : Array Value) (h : T.size = 64) : ∃ U : Nat → Value, T = #[U 0, U 1, U 2, U 3, U 4, U 5, U 6, U 7, U 8, U 9, U 10, U 11, U 12, U 13, U 14, U 15, U 16, U 17, U 18, U 19, U 20, U 21, U 22, U 23, U 24, U 25, U 26, U 27, U 28, U 29, U 30, U 31, U 32, U 33, U 34, U 35, U 36, U 37, U 38, U 39, U 40, U 41, U 42, U 43, U 44, U 45, U 46, U 47, U 48, U 49, U 50, U 51, U 52, U 53, U 54, U 55, U 56, U 57, U 58, U 59, U 60, U 61, U 62, U 63] ∧ ∀ k, T.getD k undef = U k := by
  refine ⟨fun k => T.getD k undef, ?_, fun _ => rfl⟩
  have e : T = ((List.range 64).map fun k => T.getD k undef).toArray := by
    apply Array.ext
    · simp [h]
    · intro i h1 h2
      simp [h1]
  exact e.trans rfl
structure NumF (n v : Nat) (b : UInt8) (c m x v2 : Nat) : Prop where
  hc : b.toNat = c
  cb : c ≤ 255
  m7 : m ≤ 127
  hand : ∀ d : Nat, d = c → bits .and .u8 (d : Int) 127 = (m : Int)
  xb : x ≤ 9151314442816847872
  shl : ∀ d : Nat, d = m → wrap64 ((d : Int) * 2 ^ (7 * n)) = (x : Int)
  hor : ∀ d : Nat, d = x → bits .or .i64 (v : Int) (d : Int) = (v2 : Int)
  vb : v2 ≤ 9223372036854775807
  hv2 : v2 < 2 ^ (7 * (n + 1))
  fA : ∀ l, n + 1 = 9 ∧ 64 < c → rdN n v (b :: l) = .form
  fB : ∀ l, ¬ (n + 1 = 9 ∧ 64 < c) → 128 ≤ c → rdN n v (b :: l) = rdN (n + 1) v2 l
  fC : ∀ l, ¬ (n + 1 = 9 ∧ 64 < c) → ¬ 128 ≤ c → (1 < n + 1 ∧ c = 0) ∨ 4611686018427387904 < v2 → rdN n v (b :: l) = .form
  fD : ∀ l, ¬ (n + 1 = 9 ∧ 64 < c) → ¬ 128 ≤ c → ¬ ((1 < n + 1 ∧ c = 0) ∨ 4611686018427387904 < v2) → rdN n v (b :: l) = .ok v2 (n + 1)
theorem numF (n v : Nat) (b : UInt8) (hn : n ≤ 8) (hv : v < 2 ^ (7 * n)) : ∃ c m x v2, NumF n v b c m x v2 := by
  obtain ⟨c, hc⟩ : ∃ c : Nat, b.toNat = c := ⟨_, rfl⟩
  have hcb : c ≤ 255 := by have := b.toNat_lt; omega
  obtain ⟨m, hm⟩ : ∃ m : Nat, c % 128 = m := ⟨_, rfl⟩
  have hm7 : m ≤ 127 := by omega
  have hpw := pow_7 n hn
  obtain ⟨q, hq⟩ : ∃ q : Nat, 2 ^ (7 * n) = q := ⟨_, rfl⟩
  rw [hq] at hpw hv
  have hp1 : 2 ^ (7 * (n + 1)) = 128 * q := by rw [pow7, hq]
  obtain ⟨x, hx⟩ : ∃ x : Nat, m * q = x := ⟨_, rfl⟩
  have hxb : x ≤ 9151314442816847872 := by rw [← hx]; exact Nat.le_trans (Nat.mul_le_mul hm7 hpw) (by decide)
  have hshl : wrap64 ((m : Int) * 2 ^ (7 * n)) = (x : Int) := by
    have e : ((m : Int) * 2 ^ (7 * n)) = (x : Int) := by
      rw [← hx, ← hq]
      push_cast
      rfl
    rw [e]
    exact IntWalk.wrap64_in _ (by omega)
  have HSHL := hid hshl
  clear hshl
  have hv2 : v + x < 2 ^ (7 * (n + 1)) := by
    have : m * q ≤ 127 * q := Nat.mul_le_mul_right _ hm7
    rw [hp1]; omega
  have hvb : v + x ≤ 9223372036854775807 := by omega
  have hor : bits .or .i64 (v : Int) (x : Int) = ((v + x : Nat) : Int) := or_join v x n (by rw [hq]; exact hv) hn (by rw [hq, ← hx, Nat.mul_mod_left]) (Nat.le_trans hxb (by decide))
  have hand : bits .and .u8 (c : Int) 127 = (m : Int) := by rw [and_127 c hcb, hm]
  refine ⟨c, m, x, v + x, hc, hcb, hm7, ?_, hxb, ?_, ?_, hvb, hv2, ?_, ?_, ?_, ?_⟩
  · rintro d rfl; exact hand
  · rintro d rfl; exact HSHL.out
  · rintro d rfl; exact hor
  · intro l h
    rw [rdN, hc, if_pos h]
  · intro l h h2
    rw [rdN, hc, if_neg h, if_pos h2, hm, hq, hx]
  · intro l h h2 h3
    rw [rdN, hc, if_neg h, if_neg h2, hm, hq, hx, if_pos h3]
  · intro l h h2 h3
    rw [rdN, hc, if_neg h, if_neg h2, hm, hq, hx, if_neg h3]
theorem rdNum (g : Nat) (L : List UInt8) (p : Nat) (hp : p ≤ L.length) (hL : L.length ≤ 1000000000) (w : World) (hg : w.heap[g]? = some (rdOb L p 0)) :
    Calls Try.prog 76 #[ptrV g] w fun r w' => r = .returned (.int .i64 (valR (numR L p))) ∧ w'.heap[g]? = some (rdOb L (posR p (numR L p)) (errR (numR L p))) ∧ Fr (fun k => k = g) w w' := by
  have HG := hid hg
  have HF := hid (Fr.refl (fun k => k = g) w)
  have hr : numR L p = rdN 0 0 (L.drop p) := rfl
  have HR := hid hr
  clear hr
  generalize numR L p = R at *
  clear hg
  unfold ptrV at *
  go_enter Try.func76, Try.ntmps76
  have HB := hid (grow_refl w)
  clear HB
  go_wp2_with fail
  refine wp_scope_back 1 (fun a' wr => ∃ (n v : Nat), a'.defers = [] ∧ a'.tmps.size = 64 ∧ a'.tmps.getD 0 undef = .pointer (some ⟨g, 0, none⟩) ∧ a'.tmps.getD 2 undef = .int .i64 0 ∧ a'.tmps.getD 3 undef = .int .i64 (p : Int) ∧ a'.tmps.getD 4 undef = .int .i64 (v : Int) ∧ a'.tmps.getD 5 undef = .int .i64 (n : Int) ∧ n ≤ 8 ∧ p + n ≤ L.length ∧ Hid (v < 2 ^ (7 * n)) ∧ Hid (wr.heap[g]? = some (rdOb L (p + n) 0)) ∧ Hid (Fr (fun k => k = g) w wr) ∧ Hid (R = rdN n v (L.drop (p + n)))) (fun a' _ => 9 - (intOf (a'.tmps.getD 5 undef)).toNat) rfl ?pass ?first
  case first =>
    intro K
    go_wp2_with (first | (refine opG_load1 (i := 0) (v := (.string (bs L))) rfl rfl rfl HG.out rfl Try.underlying9 rfl ?_) | (refine opG_load1 (i := 1) (v := (.int .i64 (p : Int))) rfl rfl rfl HG.out rfl Try.underlying3 rfl ?_) | (refine opG_load1 (i := 2) (v := (.int .i64 0)) rfl rfl rfl HG.out rfl Try.underlying34 rfl ?_) |  fail)
    apply wp_label
    simp only [Exit.then]
    refine into_K (by assumption) ?_
    refine K _ _ ?_
    exact ⟨0, 0, rfl, rfl, rfl, rfl, rfl, rfl, rfl, by omega, by omega, hid (by decide), HG, HF, HR⟩
  case pass =>
    clear HG HF HR
    rintro ⟨T, D⟩ wr ⟨n, v, hD, hT, h0, h2, h3, h4, h5, hn, hpn, HV, HG, HF, HR⟩
    simp only at hD hT h0 h2 h3 h4 h5
    subst hD
    rw [h5]
    obtain ⟨U, hU, hUk⟩ := frame64 T hT
    rw [hUk] at h0 h2 h3 h4 h5
    rw [h0, h2, h3, h4, h5] at hU
    subst hU
    clear hT h0 h2 h3 h4 h5 hUk
    have HVV := HV
    have n0 : (0 : Int) ≤ (n : Int) := by omega
    cases hdr : L.drop (p + n) with
    | nil =>
      have HL2 := hid (show L.length = p + n by have := congrArg List.length hdr; simp at this; omega)
      have HRS := hid (show R = .short by rw [HR.out, hdr]; rfl)
      have HTK := hid (rdTake_short g L (p + n) 1 hpn hL (by have := HL2.out; omega) (by omega) wr HG.out)
      clear hdr
      unfold ptrV at *
      go_wp2_with fail
      refine HTK.out.mono ?_
      rintro _ w1 ⟨rfl, hg, hf⟩
      have HG1 := hid hg
      have HF1 := hid (HF.out.trans hf)
      have HBK := hid (fun w hg => rdBack g L (p + n) p 2 2 w hg)
      clear hg hf HG HF HTK
      unfold ptrV at *
      go_wp2_with fail
      apply wp_goto
      simp only [Exit.then, Exit.inBlock, Exit.back]
      refine .inr ⟨_, rfl, ?_⟩
      go_wp2_with (first | (refine opG_load1 (i := 0) (v := (.string (bs L))) rfl rfl rfl HG.out rfl Try.underlying9 rfl ?_) | (refine opG_load1 (i := 1) (v := (.int .i64 (p : Int))) rfl rfl rfl HG.out rfl Try.underlying3 rfl ?_) | (refine opG_load1 (i := 2) (v := (.int .i64 0)) rfl rfl rfl HG.out rfl Try.underlying34 rfl ?_) | (refine opG_load1 (i := 0) (v := (.string (bs L))) rfl rfl rfl HG1.out rfl Try.underlying9 rfl ?_) | (refine opG_load1 (i := 1) (v := (.int .i64 ((p + n : Nat) : Int))) rfl rfl rfl HG1.out rfl Try.underlying3 rfl ?_) | (refine opG_load1 (i := 2) (v := (.int .i64 2)) rfl rfl rfl HG1.out rfl Try.underlying34 rfl ?_) |  fail)
      refine (HBK.out _ HG1.out).mono ?_
      rintro _ w2 ⟨rfl, hg, hf⟩
      have HG2 := hid (show w2.heap[g]? = some (rdOb L p 2) from hg)
      have HF2 := hid (HF1.out.trans hf)
      clear hg hf
      go_wp2_with fail
      rw [Exit.noGoto_ret]
      go_ret
      exact ⟨by rw [HRS.out]; rfl, by rw [HRS.out]; exact HG2.out, HF2.out⟩
    | cons b l =>
      have hL2 : p + n + 1 ≤ L.length := by have := congrArg List.length hdr; simp at this; omega
      have HD2 := hid (show L.drop (p + (n + 1)) = l by rw [← Nat.add_assoc, ← List.drop_drop, hdr]; rfl)
      have HTK := hid (show Calls Try.prog 116 #[ptrV g, .int .i64 1] wr fun r w' => r = .returned (.tuple #[.string (bs [b]), .bool true]) ∧ w'.heap[g]? = some (rdOb L (p + n + 1) 0) ∧ Fr (fun k => k = g) wr w' from by
        have := rdTake g L (p + n) 1 hpn hL hL2 wr HG.out
        rw [hdr] at this; exact this)
      have HRS := hid (show R = rdN n v (b :: l) by rw [HR.out, hdr])
      obtain ⟨c, m, x, v2, hnf⟩ := numF n v b hn HV.out
      have HNF := hid hnf
      have hcb := hnf.cb; have hm7 := hnf.m7; have hxb := hnf.xb
      have hix : ∀ w, (Instr.index 9 (.string (bs [b])) (.int .i64 0)).run Try.prog w = .ok (.int .u8 (c : Int)) w := fun w => by
        have := run_index_str (P := Try.prog) 9 (bs [b]) 0 (by rw [bs_size]; exact Nat.zero_lt_one) 0 rfl w Try.underlying9
        rw [this, bl_bs, ← HNF.out.hc]; rfl
      have hand := hnf.hand; have hshl := hnf.shl; have hor := hnf.hor
      have HV2 := hid hnf.hv2
      clear hdr hnf HR HV
      have H1 := hid hix; have H2 := hid hand; have H3 := hid hshl; have H4 := hid hor
      clear hix hand hshl hor
      unfold ptrV at *
      go_wp2_with fail
      refine HTK.out.mono ?_
      rintro _ w1 ⟨rfl, hg, hf⟩
      have HG1 := hid hg
      have HF1 := hid (HF.out.trans hf)
      clear hg hf HG HF HTK
      have hv2b := HNF.out.vb
      have c0 : (0 : Int) ≤ (c : Int) := by omega
      have hix := H1.out; have hand := H2.out; have hshl := H3.out; have hor := H4.out
      clear H1 H2 H3 H4
      by_cases hA : n + 1 = 9 ∧ 64 < c
      · have HRA := hid (show R = .form by rw [HRS.out]; exact HNF.out.fA l hA)
        obtain ⟨hA1, hA2⟩ := hA
        have t9 : ((n : Int) + 1 == 9) = true := by simp; omega
        go_wp2_with fail
        apply wp_goto
        simp only [Exit.then, Exit.inBlock, Exit.back]
        refine .inr ⟨_, rfl, ?_⟩
        have HRS3 := hid (show R = .form from HRA.out)
        have HFL := hid (rdFail g L (p + n + 1) 3 w1 HG1.out)
        unfold ptrV at *
        go_wp2_with fail
        refine HFL.out.mono ?_
        rintro _ w2 ⟨rfl, hg, hf⟩
        have HG2 := hid hg
        have HF2 := hid (HF1.out.trans hf)
        have HBK := hid (rdBack g L (p + n + 1) p 3 3 w2 hg)
        clear hg hf HG1 HF1 HFL
        unfold ptrV at *
        go_wp2_with fail
        apply wp_label
        simp only [Exit.then]
        go_wp2_with (first | (refine opG_load1 (i := 2) (v := .int .i64 3) rfl rfl rfl HG2.out rfl Try.underlying34 rfl ?_) |  fail)
        refine HBK.out.mono ?_
        rintro _ w3 ⟨rfl, hg, hf⟩
        have HG3 := hid (show w3.heap[g]? = some (rdOb L p 3) from hg)
        have HF3 := hid (HF2.out.trans hf)
        clear hg hf
        go_wp2_with fail
        rw [Exit.noGoto_ret]
        go_ret
        exact ⟨by rw [HRS3.out]; rfl, by rw [HRS3.out]; exact HG3.out, HF3.out⟩
      · have HNA := hid hA
        by_cases hB : 128 ≤ c
        · have HRB := hid (show R = rdN (n + 1) v2 l by rw [HRS.out]; exact HNF.out.fB l hA hB)
          have hn7 : n ≤ 7 := by have := HNA.out; omega
          have t9 : ((n : Int) + 1 == 9) = false := by simp; omega
          clear hA
          go_wp2_with fail
          apply wp_goto
          simp only [Exit.then, Exit.inBlock, Exit.back]
          refine .inl ⟨rfl, ⟨n + 1, v2, rfl, rfl, rfl, rfl, rfl, rfl, by go_num, by omega, by omega, HV2, HG1, HF1, by rw [HD2.out]; exact HRB⟩, ?_⟩
          simp [intOf]
          omega
        · have HNB := hid hB
          have h127 : c ≤ 127 := by omega
          rcases (show n = 8 ∨ (1 ≤ n ∧ n ≤ 7) ∨ n = 0 by omega) with h8 | h8 | h8
          · have t9 : ((n : Int) + 1 == 9) = true := by simp; omega
            have h64 : c ≤ 64 := by have := HNA.out; omega
            have n1 : (1 : Int) ≤ (n : Int) := by omega
            have H8 := hid h8
            clear h8 hA hB
            by_cases hc0 : c = 0
            · have t0 : ((c : Int) == 0) = true := by simp; omega
              have HRC := hid (show R = .form by rw [HRS.out]; exact HNF.out.fC l HNA.out HNB.out (.inl ⟨by have := H8.out; omega, hc0⟩))
              clear hc0
              go_wp2_with fail
              apply wp_goto
              simp only [Exit.then, Exit.inBlock, Exit.back]
              refine .inr ⟨_, rfl, ?_⟩
              have HRS3 := hid (show R = .form from HRC.out)
              have HFL := hid (rdFail g L (p + n + 1) 3 w1 HG1.out)
              unfold ptrV at *
              go_wp2_with fail
              refine HFL.out.mono ?_
              rintro _ w2 ⟨rfl, hg, hf⟩
              have HG2 := hid hg
              have HF2 := hid (HF1.out.trans hf)
              have HBK := hid (rdBack g L (p + n + 1) p 3 3 w2 hg)
              clear hg hf HG1 HF1 HFL
              unfold ptrV at *
              go_wp2_with fail
              apply wp_label
              simp only [Exit.then]
              go_wp2_with (first | (refine opG_load1 (i := 2) (v := .int .i64 3) rfl rfl rfl HG2.out rfl Try.underlying34 rfl ?_) |  fail)
              refine HBK.out.mono ?_
              rintro _ w3 ⟨rfl, hg, hf⟩
              have HG3 := hid (show w3.heap[g]? = some (rdOb L p 3) from hg)
              have HF3 := hid (HF2.out.trans hf)
              clear hg hf
              go_wp2_with fail
              rw [Exit.noGoto_ret]
              go_ret
              exact ⟨by rw [HRS3.out]; rfl, by rw [HRS3.out]; exact HG3.out, HF3.out⟩
            · have t0 : ((c : Int) == 0) = false := by simp; omega
              have HC0 := hid hc0
              clear hc0
              by_cases hv9 : 4611686018427387904 < v2
              · have HRC := hid (show R = .form by rw [HRS.out]; exact HNF.out.fC l HNA.out HNB.out (.inr hv9))
                go_wp2_with fail
                apply wp_goto
                simp only [Exit.then, Exit.inBlock, Exit.back]
                refine .inr ⟨_, rfl, ?_⟩
                have HRS3 := hid (show R = .form from HRC.out)
                have HFL := hid (rdFail g L (p + n + 1) 3 w1 HG1.out)
                unfold ptrV at *
                go_wp2_with fail
                refine HFL.out.mono ?_
                rintro _ w2 ⟨rfl, hg, hf⟩
                have HG2 := hid hg
                have HF2 := hid (HF1.out.trans hf)
                have HBK := hid (rdBack g L (p + n + 1) p 3 3 w2 hg)
                clear hg hf HG1 HF1 HFL
                unfold ptrV at *
                go_wp2_with fail
                apply wp_label
                simp only [Exit.then]
                go_wp2_with (first | (refine opG_load1 (i := 2) (v := .int .i64 3) rfl rfl rfl HG2.out rfl Try.underlying34 rfl ?_) |  fail)
                refine HBK.out.mono ?_
                rintro _ w3 ⟨rfl, hg, hf⟩
                have HG3 := hid (show w3.heap[g]? = some (rdOb L p 3) from hg)
                have HF3 := hid (HF2.out.trans hf)
                clear hg hf
                go_wp2_with fail
                rw [Exit.noGoto_ret]
                go_ret
                exact ⟨by rw [HRS3.out]; rfl, by rw [HRS3.out]; exact HG3.out, HF3.out⟩
              · have HRD := hid (show R = .ok v2 (n + 1) by rw [HRS.out]; exact HNF.out.fD l HNA.out HNB.out (fun h => h.elim (fun h => HC0.out h.2) (fun h => by omega)))
                have hv8 : v2 ≤ 4611686018427387904 := by omega
                clear hv9
                go_wp2_with fail
                simp only [Exit.back]
                go_ret
                exact ⟨by rw [HRD.out]; rfl, by rw [HRD.out]; exact HG1.out, HF1.out⟩
          · have t9 : ((n : Int) + 1 == 9) = false := by simp; omega
            have n1 : (1 : Int) ≤ (n : Int) := by omega
            have H8 := hid h8
            clear h8 hA hB
            by_cases hc0 : c = 0
            · have t0 : ((c : Int) == 0) = true := by simp; omega
              have HRC := hid (show R = .form by rw [HRS.out]; exact HNF.out.fC l HNA.out HNB.out (.inl ⟨by have := H8.out; omega, hc0⟩))
              clear hc0
              go_wp2_with fail
              apply wp_goto
              simp only [Exit.then, Exit.inBlock, Exit.back]
              refine .inr ⟨_, rfl, ?_⟩
              have HRS3 := hid (show R = .form from HRC.out)
              have HFL := hid (rdFail g L (p + n + 1) 3 w1 HG1.out)
              unfold ptrV at *
              go_wp2_with fail
              refine HFL.out.mono ?_
              rintro _ w2 ⟨rfl, hg, hf⟩
              have HG2 := hid hg
              have HF2 := hid (HF1.out.trans hf)
              have HBK := hid (rdBack g L (p + n + 1) p 3 3 w2 hg)
              clear hg hf HG1 HF1 HFL
              unfold ptrV at *
              go_wp2_with fail
              apply wp_label
              simp only [Exit.then]
              go_wp2_with (first | (refine opG_load1 (i := 2) (v := .int .i64 3) rfl rfl rfl HG2.out rfl Try.underlying34 rfl ?_) |  fail)
              refine HBK.out.mono ?_
              rintro _ w3 ⟨rfl, hg, hf⟩
              have HG3 := hid (show w3.heap[g]? = some (rdOb L p 3) from hg)
              have HF3 := hid (HF2.out.trans hf)
              clear hg hf
              go_wp2_with fail
              rw [Exit.noGoto_ret]
              go_ret
              exact ⟨by rw [HRS3.out]; rfl, by rw [HRS3.out]; exact HG3.out, HF3.out⟩
            · have t0 : ((c : Int) == 0) = false := by simp; omega
              have HC0 := hid hc0
              clear hc0
              by_cases hv9 : 4611686018427387904 < v2
              · have HRC := hid (show R = .form by rw [HRS.out]; exact HNF.out.fC l HNA.out HNB.out (.inr hv9))
                go_wp2_with fail
                apply wp_goto
                simp only [Exit.then, Exit.inBlock, Exit.back]
                refine .inr ⟨_, rfl, ?_⟩
                have HRS3 := hid (show R = .form from HRC.out)
                have HFL := hid (rdFail g L (p + n + 1) 3 w1 HG1.out)
                unfold ptrV at *
                go_wp2_with fail
                refine HFL.out.mono ?_
                rintro _ w2 ⟨rfl, hg, hf⟩
                have HG2 := hid hg
                have HF2 := hid (HF1.out.trans hf)
                have HBK := hid (rdBack g L (p + n + 1) p 3 3 w2 hg)
                clear hg hf HG1 HF1 HFL
                unfold ptrV at *
                go_wp2_with fail
                apply wp_label
                simp only [Exit.then]
                go_wp2_with (first | (refine opG_load1 (i := 2) (v := .int .i64 3) rfl rfl rfl HG2.out rfl Try.underlying34 rfl ?_) |  fail)
                refine HBK.out.mono ?_
                rintro _ w3 ⟨rfl, hg, hf⟩
                have HG3 := hid (show w3.heap[g]? = some (rdOb L p 3) from hg)
                have HF3 := hid (HF2.out.trans hf)
                clear hg hf
                go_wp2_with fail
                rw [Exit.noGoto_ret]
                go_ret
                exact ⟨by rw [HRS3.out]; rfl, by rw [HRS3.out]; exact HG3.out, HF3.out⟩
              · have HRD := hid (show R = .ok v2 (n + 1) by rw [HRS.out]; exact HNF.out.fD l HNA.out HNB.out (fun h => h.elim (fun h => HC0.out h.2) (fun h => by omega)))
                have hv8 : v2 ≤ 4611686018427387904 := by omega
                clear hv9
                go_wp2_with fail
                simp only [Exit.back]
                go_ret
                exact ⟨by rw [HRD.out]; rfl, by rw [HRD.out]; exact HG1.out, HF1.out⟩
          · have t9 : ((n : Int) + 1 == 9) = false := by simp; omega
            have n1 : (n : Int) = 0 := by omega
            have n2 : (n : Int) ≤ 0 := by omega
            clear n1
            have H8 := hid h8
            clear h8 hA hB
            by_cases hv9 : 4611686018427387904 < v2
            · have HRC := hid (show R = .form by rw [HRS.out]; exact HNF.out.fC l HNA.out HNB.out (.inr hv9))
              go_wp2_with fail
              apply wp_goto
              simp only [Exit.then, Exit.inBlock, Exit.back]
              refine .inr ⟨_, rfl, ?_⟩
              have HRS3 := hid (show R = .form from HRC.out)
              have HFL := hid (rdFail g L (p + n + 1) 3 w1 HG1.out)
              unfold ptrV at *
              go_wp2_with fail
              refine HFL.out.mono ?_
              rintro _ w2 ⟨rfl, hg, hf⟩
              have HG2 := hid hg
              have HF2 := hid (HF1.out.trans hf)
              have HBK := hid (rdBack g L (p + n + 1) p 3 3 w2 hg)
              clear hg hf HG1 HF1 HFL
              unfold ptrV at *
              go_wp2_with fail
              apply wp_label
              simp only [Exit.then]
              go_wp2_with (first | (refine opG_load1 (i := 2) (v := .int .i64 3) rfl rfl rfl HG2.out rfl Try.underlying34 rfl ?_) |  fail)
              refine HBK.out.mono ?_
              rintro _ w3 ⟨rfl, hg, hf⟩
              have HG3 := hid (show w3.heap[g]? = some (rdOb L p 3) from hg)
              have HF3 := hid (HF2.out.trans hf)
              clear hg hf
              go_wp2_with fail
              rw [Exit.noGoto_ret]
              go_ret
              exact ⟨by rw [HRS3.out]; rfl, by rw [HRS3.out]; exact HG3.out, HF3.out⟩
            · have HRD := hid (show R = .ok v2 (n + 1) by rw [HRS.out]; exact HNF.out.fD l HNA.out HNB.out (fun h => h.elim (fun h => by have := H8.out; omega) (fun h => by omega)))
              have hv8 : v2 ≤ 4611686018427387904 := by omega
              clear hv9
              go_wp2_with fail
              simp only [Exit.back]
              go_ret
              exact ⟨by rw [HRD.out]; rfl, by rw [HRD.out]; exact HG1.out, HF1.out⟩
end Go.Proofs.Ytabkaflccaklhaa
