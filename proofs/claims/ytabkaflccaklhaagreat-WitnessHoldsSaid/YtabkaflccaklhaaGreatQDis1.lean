/- disk.put and the clones of bytes and of writes: contracts. -/
import Derived.Test.YtabkaflccaklhaaGreatQFr
import Derived.Test.YtabkaflccaklhaaGreatQIdx1
import Derived.Test.YtabkaflccaklhaaGreatQEager
set_option linter.unusedSimpArgs false
set_option linter.unusedVariables false
namespace Go.Qk
open Go.RowKit
theorem own_ne_blk {w : World} {B : Nat} {e t : TypeId} {sz n : Nat} {v : Value} {xs : List Value} {g : Nat} {cs : Array Value} {fr : Nat × Nat} (h : w.ownsRow B e sz v n xs) (hb : w.heap[g]? = some (.cells cs t fr)) (hne : e ≠ t) : v.ownBlock ≠ some g := by
  rcases h.2 with ⟨rfl, _⟩ | ⟨k, cap, cur, rfl, h1, h2, _⟩
  · simp [Value.ownBlock]
  · intro hk
    simp only [Value.ownBlock, Option.some.injEq] at hk
    subst hk
    rw [h2] at hb
    injection hb with hb
    injection hb with _ hb _
    exact hne hb
theorem blk_other' {w w' : World} {h : Nat} {Y : Obj} {row : Option Nat} (hg : w.grownBy w' row) (hh : w.heap[h]? = some Y) (hne : row ≠ some h) : w'.heap[h]? = some Y := by
  rw [hg.block h (Array.getElem?_eq_some_iff.1 hh).1 (fun e => hne e.symm)]; exact hh
/-- A row whose block was written in its middle. -/
theorem own_splice {w W : World} {B : Nat} {e : TypeId} {g n cap : Nat} {xs news : List Value} {cur : Array Value} {p : Nat} (h : w.ownsRow B e 1 (.slice (some ⟨g, 0, none⟩) n cap) n xs) (hg : w.heap[g]? = some (.cells cur e (0, 0)))
    (hW : W.heap[g]? = some (.cells (cur.toList.take p ++ news ++ cur.toList.drop (p + news.length)).toArray e (0, 0))) (hp : p + news.length ≤ n) : W.ownsRow B e 1 (.slice (some ⟨g, 0, none⟩) n cap) n (xs.take p ++ news ++ xs.drop (p + news.length)) := by
  rcases h with ⟨h0, ⟨h1, _⟩ | ⟨g', cap', cur', h1, h2, h3, h4, h5, h6, h7⟩⟩
  · cases h1
  · cases h1
    rw [h3] at hg
    injection hg with hg
    injection hg with hg _ _
    subst hg
    rw [Nat.mul_one] at h0 h6 h7
    have hcl : cur'.toList.length = cap := by simpa using h6
    obtain ⟨tl, htl⟩ : ∃ tl, cur'.toList = xs ++ tl := ⟨cur'.toList.drop n, by rw [← h7]; exact (List.take_append_drop n _).symm⟩
    have e : cur'.toList.take p ++ news ++ cur'.toList.drop (p + news.length) = (xs.take p ++ news ++ xs.drop (p + news.length)) ++ tl := by
      rw [htl, List.take_append_of_le_length (by omega), List.drop_append_of_le_length (by omega)]
      simp only [List.append_assoc]
    have hl : (xs.take p ++ news ++ xs.drop (p + news.length)).length = n := by simp; omega
    rw [e] at hW
    refine ⟨by rw [hl, Nat.mul_one], .inr ⟨g, cap, _, rfl, h2, hW, h4, h5, ?_, ?_⟩⟩
    · have : (xs ++ tl).length = cap := by rw [← htl]; exact hcl
      simp only [List.size_toArray, List.length_append, hl, Nat.mul_one] at this ⊢
      omega
    · show List.take (n * 1) ((xs.take p ++ news ++ xs.drop (p + news.length)) ++ tl) = _
      rw [Nat.mul_one, List.take_append_of_le_length (by omega), List.take_of_length_le (by omega)]
end Go.Qk
namespace Go.Proofs.YtabkaflccaklhaaGreat
open Go.RowKit
open Go.Qk hiding rotr b4
set_option maxHeartbeats 1000000
set_option maxRecDepth 100000
theorem szU8' : (Tryz.prog.info? 5).map (·.size) = some 1 := by kernel_rfl
theorem run_bytesFrom {ad : Addr} {n c k : Nat} (hk : k ≤ n) (hc : n ≤ c) (hkc : k < c) (w : World) : (Instr.sliceAt 85 (.slice (some ad) n c) (some (.int .i64 (k : Int))) none none).run Tryz.prog w = .ok (.slice (some (ad.add k)) (n - k) (c - k)) w := by
  have h1 : (k : Int) ≤ (n : Int) := by omega
  have h2 : (0 : Int) ≤ (k : Int) := by omega
  have h3 : (n : Int) ≤ (c : Int) := by omega
  have h4 : ¬ c = k := by omega
  go_simp
def putL (l : List UInt8) (p : Nat) (s : List UInt8) : List UInt8 := (l ++ List.replicate (p + s.length - l.length) 0).take p ++ s ++ (l ++ List.replicate (p + s.length - l.length) 0).drop (p + s.length)
theorem dkPut (v : Value) (l s : List UInt8) (p : Nat) (hs : s ≠ []) (hb : p + s.length ≤ 10000000) (hl : l.length ≤ 10000000) (B : Nat) (w : World) (hv : Buf 5 B w v l) (hB : B ≤ w.heap.size) :
    Calls Tryz.prog 54 #[v, .agg #[.int .i64 (p : Int), .string (bs s)]] w fun e w' => ∃ v', e = .returned v' ∧ Buf 5 B w' v' (putL l p s) ∧ Fr (fun k => v.ownBlock = some k) w w' ∧ Moved w v v' := by
  have hsl : 0 < s.length := List.length_pos_iff.2 hs
  have HSL := hid hsl
  have hsz := bs_size s
  have HV := hid hv
  have HBW := hid hB
  have HLM := hid hl
  clear hv hs hB hl
  go_enter Tryz.func54, Tryz.ntmps54
  have HB := hid (grow_refl w)
  apply wp_seq_k; intro _ _; apply wp_region_lit
  refine op_boxC (cs := #[.int .i64 (p : Int), .string (bs s)]) rfl rfl rfl rfl ?_
  intro gb w1 hgl hgu hb hr
  have BXL := hid (Nat.le_trans HB.out.size hgl)
  replace HB := hid (Grow.trans HB.out hb)
  have BX := hid hr; have BXU := hid hgu
  clear hr hgl hgu hb
  try simp only [Act.put, List.setIfInBounds_toArray, List.set_cons_zero, List.set_cons_succ]
  have HF := hid (fr_grow (D := fun k => v.ownBlock = some k) HB.out)
  have HO := hid (HV.out.grow HB.out)
  have HGW := hid HB.out.size
  clear HB BXU
  go_wp2_with fail
  go_loopg [0] (p + s.length - l.length + 1) (fun z x wr => ∃ m : Nat, l.length ≤ m ∧ m ≤ 10000000 ∧ (m ≤ l.length ∨ m ≤ p + s.length) ∧ z = p + s.length - m + 1 ∧ Hid (wr.ownsRow B 5 1 x m (u8s (l ++ List.replicate (m - l.length) 0))) ∧ Hid (Fr (fun k => v.ownBlock = some k) w wr) ∧ Hid (Moved w v x) ∧ Hid (wr.heap[gb]? = some (.cells #[.int .i64 (p : Int), .string (bs s)] 102 (0, 0))))
  case atStart => exact ⟨l.length, Nat.le_refl _, HLM.out, .inl (Nat.le_refl _), rfl, hid (by have := HO.out; unfold Buf at this; simpa using this), HF, hid (moved_refl _ _), BX⟩
  case round =>
    clear HO HF BX
    obtain ⟨m, hm1, hmx, hm2, hz, HO, HF, HM, BX⟩ := hrel
    obtain ⟨A0, c0, rfl, _⟩ := own_sl HO.out
    have HL1 := hid hm1
    have HL2 := hid hm2
    clear hm1 hm2
    by_cases hlt : m < p + s.length
    · have hne := own_ne_blk HO.out BX.out (by decide)
      have HNE := hid hne
      clear hne
      go_wp2_with (first | (refine opG_load1 rfl rfl rfl BX.out rfl Tryz.underlying3 rfl ?_) | (refine opG_load1 rfl rfl rfl BX.out rfl Tryz.underlying9 rfl ?_) | (refine op_app1M (z := .int .u8 0) rfl rfl rfl rfl rfl rfl Tryz.underlying85 infoU8 rfl (fun _ => rfl) (fun _ => rfl) rfl rfl HO.out (Nat.le_trans HBW.out HF.out.size) (by omega) (by omega) ?_))
      intro sl v2 w2 ho hg hmv
      have HO2 := hid ho
      have HF2 := hid (HF.out.step (fr_grown (D := fun k => Value.ownBlock (.slice A0 m c0) = some k) hg (fun k hk => .inl hk)) (fun k hk => HM.out k hk))
      have HM2 := hid (HM.out.trans hmv HF.out.size)
      have BX2 := hid (blk_other' hg BX.out HNE.out)
      clear ho hg hmv HO HF HM BX HNE
      go_wp2_with fail
      go_roundg (p + s.length - (m + 1) + 1)
      case rel => exact ⟨m + 1, by have := HL1.out; omega, by omega, .inr (by omega), rfl, hid (by have := HO2.out; rw [show m + 1 - l.length = (m - l.length) + 1 by have := HL1.out; omega, List.replicate_succ', ← List.append_assoc, u8s_append]; exact this), HF2, HM2, BX2⟩
      case measure => omega
    · have hms : s.length ≤ m := by omega
      obtain ⟨g, cap, cur, e, h1, h2, h3, h4, h5, h6⟩ : ∃ g cap cur, A0 = some ⟨g, 0, none⟩ ∧ cap = c0 ∧ B ≤ g ∧ wr.heap[g]? = some (.cells cur 5 (0, 0)) ∧ m ≤ cap ∧ cap ≤ maxLen ∧ cur.size = cap := by
        rcases HO.out.2 with ⟨e, h0⟩ | ⟨g, cap, cur, e, h1, h2, h3, h4, h5, h6⟩
        · omega
        · cases e; exact ⟨g, _, cur, rfl, rfl, h1, h2, h3, h4, by simpa using h5⟩
      subst e h1
      have hsl2 := run_bytesFrom (ad := ⟨g, 0, none⟩) (n := m) (c := cap) (k := p) (by omega) (by omega) (by omega)
      rw [addr_add] at hsl2
      have HC := hid h3
      have HGB := hid h2
      have HCC := hid h4
      have HCS := hid h6
      have HML := hid h5
      clear h3 h2 h4 h6 h5
      go_wp2_with (first | (refine opG_load1 rfl rfl rfl BX.out rfl Tryz.underlying3 rfl ?_) | (refine opG_load1 rfl rfl rfl BX.out rfl Tryz.underlying9 rfl ?_) | fail)
      (refine' wp_region_head 6 1 [_, _, _, _, _, _] rfl (by kernel_rfl) (by kernel_rfl) ?hreg1; case' hreg1 => simp only [List.take_succ_cons, List.take_zero, List.zip_cons_cons, List.zip_nil_right, List.drop_succ_cons, List.drop_zero, List.drop_nil])
      (refine' head_val ?dw2 ?de2 ?dr2 ?dh2; (case' dw2 => rfl); (case' de2 => (first | exact fun _ _ _ => trivial | (intro t ht w; cases ht; simp [upE]))); (case' dr2 => (intro w' hw' _; go_simp; with_reducible rfl)); (case' dh2 => (try simp only [Act.put, List.setIfInBounds_toArray, List.set_cons_zero, List.set_cons_succ]))); (refine' head_val ?dw3 ?de3 ?dr3 ?dh3; (case' dw3 => rfl); (case' de3 => (first | exact fun _ _ _ => trivial | (intro t ht w; cases ht; simp [upE]))); (case' dr3 => (intro w' hw' _; go_simp; with_reducible rfl)); (case' dh3 => (try simp only [Act.put, List.setIfInBounds_toArray, List.set_cons_zero, List.set_cons_succ])))
      (refine' head_load1 rfl ?_ rfl rfl BX.out rfl Tryz.underlying3 rfl ?_; (first | exact fun _ _ _ => trivial | (intro t ht w; cases ht; simp [upE])); try simp only [Act.put, List.setIfInBounds_toArray, List.set_cons_zero, List.set_cons_succ])
      (refine' head_val ?dw4 ?de4 ?dr4 ?dh4; (case' dw4 => rfl); (case' de4 => (first | exact fun _ _ _ => trivial | (intro t ht w; cases ht; simp [upE]))); (case' dr4 => (intro w' hw' _; go_simp; with_reducible rfl)); (case' dh4 => (try simp only [Act.put, List.setIfInBounds_toArray, List.set_cons_zero, List.set_cons_succ]))); (refine' head_val ?dw5 ?de5 ?dr5 ?dh5; (case' dw5 => rfl); (case' de5 => (first | exact fun _ _ _ => trivial | (intro t ht w; cases ht; simp [upE]))); (case' dr5 => (intro w' hw' _; go_simp; with_reducible rfl)); (case' dh5 => (try simp only [Act.put, List.setIfInBounds_toArray, List.set_cons_zero, List.set_cons_succ])))
      (refine' head_load1 rfl ?_ rfl rfl BX.out rfl Tryz.underlying9 rfl ?_; (first | exact fun _ _ _ => trivial | (intro t ht w; cases ht; simp [upE])); try simp only [Act.put, List.setIfInBounds_toArray, List.set_cons_zero, List.set_cons_succ])
      refine head_nil ?_
      intro w2 hb _
      replace BX := hid (grow_block BX.out hb)
      replace HF := hid (Fr.trans HF.out (fr_grow hb))
      replace HO := hid (own_grow HO.out hb)
      replace HC := hid (grow_block HC.out hb)
      clear hb
      have HSN := hid (bs_size s)
      clear hsl2 hsz
      go_wp2_with (first | (refine op_copyStr (l := s) (cur := cur.toList) rfl rfl Tryz.underlying85 szU8' rfl rfl HC.out (by omega) (by have := HCS.out; have := HCC.out; simp; omega) ?_) | fail)
      intro w4 hw4 hg4
      have HO4 := hid (own_splice (news := u8s s) (p := p) HO.out HC.out (by rw [u8s_length, List.append_assoc]; exact hw4) (by rw [u8s_length]; omega))
      have HF4 := hid (HF.out.step (fr_grown (D := fun k => Value.ownBlock (.slice (some ⟨g, 0, none⟩) m cap) = some k) hg4 (fun k hk => .inl hk)) (fun k hk => HM.out k hk))
      clear hw4 hg4 HO HF HC
      go_wp2_with fail
      go_ret
      refine ⟨_, rfl, ?_, HF4.out, HM.out⟩
      have e1 : m - l.length = p + s.length - l.length := by have := HL1.out; have := HL2.out; omega
      have e2 : (putL l p s).length = m := by unfold putL; rw [← e1]; simp; have := HL1.out; omega
      have e3 : u8s (putL l p s) = (u8s (l ++ List.replicate (m - l.length) 0)).take p ++ u8s s ++ (u8s (l ++ List.replicate (m - l.length) 0)).drop (p + (u8s s).length) := by
        unfold putL
        rw [← e1, u8s_length]
        simp only [u8s, List.map_append, List.map_take, List.map_drop]
      unfold Buf
      rw [e2, e3]
      exact HO4.out
end Go.Proofs.YtabkaflccaklhaaGreat
