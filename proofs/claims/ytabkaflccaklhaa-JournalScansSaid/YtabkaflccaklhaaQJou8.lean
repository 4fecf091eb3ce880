/- Rows of frames; journal.All where all may be: contract. -/
import Derived.Test.YtabkaflccaklhaaQJou7
set_option linter.unusedSimpArgs false
set_option linter.unusedVariables false
namespace Go.Proofs.Ytabkaflccaklhaa
open Go.RowKit
open Go.Qk hiding rotr b4
open Pac
set_option maxHeartbeats 4000000
set_option maxRecDepth 100000
/-- Frames: kinds and payloads. -/
def fm0 : Int × List UInt8 := (0, [])
def fmCells (x : Int × List UInt8) : List Value := [.int .i64 x.1, .string (bs x.2)]
def FmRow (w : World) (A : Option Addr) (fs : List (Int × List UInt8)) : Prop := fs.length ≤ 9223372036854775807 ∧ (fs ≠ [] → ∃ ad, A = some ad ∧ ∀ i, i < fs.length → ∀ j v, (fmCells (fs.getD i fm0))[j]? = some v → w.cell? ((ad.add (i * 2)).add j) = some v)
theorem FmRow.grow {w w1 : World} {A : Option Addr} {fs : List (Int × List UInt8)} (h : FmRow w A fs) (hg : Grow w w1) : FmRow w1 A fs :=
  ⟨h.1, fun hne => by obtain ⟨ad, e, hc⟩ := h.2 hne; exact ⟨ad, e, fun i hi j v hj => grow_cell (hc i hi j v hj) hg⟩⟩
theorem FmRow.at_ {w : World} {A : Option Addr} {fs : List (Int × List UInt8)} (h : FmRow w A fs) (i : Nat) (hi : i < fs.length) : ∃ ad, A = some ad ∧ ∀ j v, (fmCells (fs.getD i fm0))[j]? = some v → w.cell? ((ad.add (i * 2)).add j) = some v := by
  obtain ⟨ad, e, hc⟩ := h.2 (by intro e; subst e; simp at hi)
  exact ⟨ad, e, hc i hi⟩
theorem oneFm (x : Int × List UInt8) : ∀ v ∈ fmCells x, v.oneCell' = true := by
  intro v hv
  simp only [fmCells, List.mem_cons, List.not_mem_nil, or_false] at hv
  rcases hv with rfl | rfl <;> rfl
theorem infoFm (x : Int × List UInt8) : (Try.prog.info? 101).map (·.size) = some (fmCells x).length := by kernel_rfl
/-- A frame that may be. -/
def fmOk (x : Int × List UInt8) : Prop := 1 ≤ x.1 ∧ x.1 ≤ 255 ∧ x.2.length ≤ 4194304
def fmG (x : Int × List UInt8) : UInt8 × List UInt8 := (UInt8.ofNat x.1.toNat, x.2)
theorem fmG_kind {x : Int × List UInt8} (h : fmOk x) : ((fmG x).1.toNat : Int) = x.1 ∧ (fmG x).1 ≠ 0 := by
  obtain ⟨h1, h2, _⟩ := h
  have e : (UInt8.ofNat x.1.toNat).toNat = x.1.toNat := by rw [UInt8.toNat_ofNat']; omega
  have e2 : ((fmG x).1.toNat : Int) = x.1 := by
    show ((UInt8.ofNat x.1.toNat).toNat : Int) = _
    rw [e]; omega
  refine ⟨e2, fun h0 => ?_⟩
  rw [h0] at e2
  have : ((0 : UInt8).toNat : Int) = 0 := rfl
  omega
theorem allF_snoc : ∀ (l : List (UInt8 × List UInt8)) (c : List UInt8) (k : UInt8) (p : List UInt8), allF c (l ++ [(k, p)]) = allF c l ++ frameB (chainF c l) k p ∧ chainF c (l ++ [(k, p)]) = nextL (chainF c l) k p
  | [], c, k, p => by simp [allF, chainF]
  | (k0, p0) :: t, c, k, p => by
    obtain ⟨h1, h2⟩ := allF_snoc t (nextL c k0 p0) k p
    refine ⟨?_, h2⟩
    show frameB c k0 p0 ++ allF (nextL c k0 p0) (t ++ [(k, p)]) = (frameB c k0 p0 ++ allF (nextL c k0 p0) t) ++ _
    rw [h1, List.append_assoc]
    rfl
theorem chainF_length : ∀ (l : List (UInt8 × List UInt8)) (c : List UInt8), c.length = 32 → (chainF c l).length = 32
  | [], c, h => h
  | (k, p) :: t, c, h => chainF_length t _ (nextL_length c k p)
def fmSize (fs : List (Int × List UInt8)) : Nat := (fs.map fun x => x.2.length + 20).sum
theorem fmSize_snoc (fs : List (Int × List UInt8)) (x : Int × List UInt8) : fmSize (fs ++ [x]) = fmSize fs + (x.2.length + 20) := by simp [fmSize]
theorem frameB_len (c p : List UInt8) (k : UInt8) (hp : p.length ≤ 4194304) : (frameB c k p).length ≤ p.length + 20 := by
  have h1 := nextL_length c k p
  have h2 := encN_ten p.length (by omega)
  unfold frameB textB
  simp only [List.length_cons, List.length_append, List.length_take]
  omega
theorem fm_take (fs : List (Int × List UInt8)) (k : Nat) (h : k < fs.length) : fs.take (k + 1) = fs.take k ++ [fs.getD k fm0] := by
  rw [List.take_succ_eq_append_getElem h]
  simp [h]
theorem IsBd.grow {B b : Nat} {l : List UInt8} {w w' : World} (h : IsBd B b l w) (hg : Grow w w') : IsBd B b l w' := by
  rcases h with ⟨h1, v, h2, h3, h4⟩ | ⟨h1, v, h2, h3, h4⟩
  · exact .inl ⟨h1, v, grow_block h2 hg, own_grow h3 hg, h4⟩
  · exact .inr ⟨h1, v, grow_block h2 hg, own_grow h3 hg, h4⟩
theorem IsBd.grown {B b g : Nat} {l : List UInt8} {w w' : World} {cs : Array Value} {t : TypeId} {fr : Nat × Nat} (h : IsBd B b l w) (hg : w.grownBy w' (some g)) (hk : w.heap[g]? = some (.cells cs t fr)) (h1 : t ≠ 114) (h2 : t ≠ 5) : IsBd B b l w' := by
  have hf : Fr (fun k => k = g) w w' := fr_grown hg (fun k hk => .inl (Option.some.inj hk).symm)
  have own : ∀ v, w.ownsRow B 5 1 v (u8s l).length (u8s l) → w'.ownsRow B 5 1 v (u8s l).length (u8s l) := fun v hv => hf.own hv (fun k hk' e => by
    obtain ⟨cs', fr', h'⟩ := own_blk_t hv hk'
    exact blk_ne h' hk (Ne.symm h2) e)
  rcases h with ⟨q1, v, q2, q3, q4⟩ | ⟨q1, v, q2, q3, q4⟩
  · exact .inl ⟨q1, v, hf.blk q2 (fun e => blk_ne q2 hk (Ne.symm h1) e), own v q3, q4⟩
  · exact .inr ⟨q1, v, hf.blk q2 (fun e => blk_ne q2 hk (Ne.symm h1) e), own v q3, q4⟩
theorem allF_len : ∀ (fs : List (Int × List UInt8)) (c : List UInt8), (∀ x ∈ fs, fmOk x) → (allF c (fs.map fmG)).length ≤ fmSize fs
  | [], c, _ => Nat.le_refl _
  | x :: t, c, h => by
    have ih := allF_len t (nextL c (fmG x).1 (fmG x).2) (fun y hy => h y (List.mem_cons_of_mem _ hy))
    have h1 := h x List.mem_cons_self
    have h2 := frameB_len c (fmG x).2 (fmG x).1 h1.2.2
    have e : fmSize (x :: t) = x.2.length + 20 + fmSize t := by simp [fmSize]
    have e2 : (fmG x).2 = x.2 := rfl
    show (frameB c (fmG x).1 (fmG x).2 ++ allF (nextL c (fmG x).1 (fmG x).2) (t.map fmG)).length ≤ _
    rw [List.length_append, e]
    rw [e2] at h2 ih ⊢
    omega
theorem jouAll (A : Option Addr) (n d : Nat) (fs : List (Int × List UInt8)) (w : World) (hx : FmRow w A fs) (hn : fs.length = n) (hok : ∀ x ∈ fs, fmOk x) (hsz : ∀ k, k ≤ n → fmSize (fs.take k) ≤ 500000000) :
    Calls Try.prog 16 #[.slice A n d] w fun e w' => e = .returned (.tuple #[.string (bs (allF beginL (fs.map fmG))), .int .i64 0]) ∧ Below w.heap.size w w' := by
  have HX := hid hx
  have HN := hid hn
  have HOK := hid hok
  have HSZ := hid hsz
  have n9 : n ≤ 9223372036854775807 := by have := hx.1; omega
  clear hx hn hok hsz
  go_enter Try.func16, Try.ntmps16
  have HB := hid (grow_refl w)
  go_wp2_with fail
  have hga := grow_alloc w (Obj.cells #[Value.pointer none, Value.slice none 0 0] 114)
  have hna := heap_alloc_new w (Obj.cells #[Value.pointer none, Value.slice none 0 0] 114)
  generalize w.alloc (Obj.cells #[Value.pointer none, Value.slice none 0 0] 114) = w1 at *
  obtain ⟨b, hb⟩ : ∃ b, b = w.heap.size := ⟨_, rfl⟩
  have HBS := hid (show w.heap.size ≤ b from Nat.le_of_eq hb.symm)
  rw [← hb] at hna ⊢
  have HBD1 := hid (show IsBd w.heap.size b [] w1 from .inl ⟨HBS.out, .slice none 0 0, hna, World.ownsRow_nil _ _ _ _, by simp [Value.ownBlock]⟩)
  have HB1 := hid hga
  clear hga hna hb HB
  refine (jouBegin _).mono ?_
  rintro _ w2 ⟨rfl, hb⟩
  have HBD2 := hid (HBD1.out.grow hb)
  have HB := hid (Grow.trans HB1.out hb)
  clear hb HBD1 HB1
  go_wp2_with (first |  (refine op_allocstore (l := beginL) rfl rfl rfl rfl rfl rfl (fun _ => rfl) ⟨fun _ => rfl, beginL_length⟩ ?_))
  intro g5 w1 hgl hgu hb hr
  have XL := hid (Nat.le_trans HB.out.size hgl)
  replace HB := hid (Grow.trans HB.out hb)
  replace HBD2 := hid (HBD2.out.grow hb)
  have X := hid hr; have XU := hid hgu
  clear hr hgl hgu hb
  try simp only [Act.put, List.setIfInBounds_toArray, List.set_cons_zero, List.set_cons_succ]
  have HGL5 := XL
  clear XU XL
  go_wp2_with fail
  go_loopg [13] (n + 1) (fun z i wr => ∃ k : Nat, k ≤ n ∧ z = n + 1 - k ∧ i = .int .i64 (k : Int) ∧ Hid (IsBd w.heap.size b (allF beginL ((fs.take k).map fmG)) wr) ∧ Hid (wr.heap[g5]? = some (.cells (u8s (chainF beginL ((fs.take k).map fmG))).toArray 25 (0, 0))) ∧ Hid (w.heap.size ≤ g5) ∧ Hid (Grow w wr))
  case atStart => exact ⟨0, by omega, by omega, rfl, HBD2, X, HGL5, HB⟩
  case round =>
    clear HBD2 X HB HGL5
    obtain ⟨k, hk, hz, rfl, HBD, HG, HGL, HB⟩ := hrel
    have k0 : (0 : Int) ≤ (k : Int) := by omega
    have HC := hid (chainF_length ((fs.take k).map fmG) beginL beginL_length)
    by_cases hlt : k < n
    · have k1 : (k : Int) < (n : Int) := by omega
      have hkl : k < fs.length := by rw [HN.out]; exact hlt
      obtain ⟨ad, rfl, hc⟩ := (HX.out.grow HB.out).at_ k hkl
      have hok := HOK.out (fs.getD k fm0) (by simp [hkl])
      have htk := fm_take fs k hkl
      have hsz1 := HSZ.out (k + 1) (by omega)
      rw [htk, fmSize_snoc] at hsz1
      have hal := allF_snoc ((fs.take k).map fmG) beginL (fmG (fs.getD k fm0)).1 (fmG (fs.getD k fm0)).2
      have HTK := hid (show (fs.take (k + 1)).map fmG = (fs.take k).map fmG ++ [fmG (fs.getD k fm0)] by rw [htk]; simp)
      obtain ⟨q1, q2⟩ := fmG_kind hok
      have hps := hok.2.2
      generalize fs.getD k fm0 = y at *
      obtain ⟨ki, p⟩ := y
      obtain ⟨kb, hkb⟩ : ∃ kb, kb = (fmG (ki, p)).1 := ⟨_, rfl⟩
      have hgp : fmG (ki, p) = (kb, p) := by rw [hkb]; rfl
      rw [← hkb] at q1 q2
      rw [hgp] at hal HTK
      dsimp only at q1 hal hsz1 hps
      subst q1
      have HAL := hid hal
      have HCC := hid hc
      have HQ := hid q2
      have HPS := hid hps
      have hbl : (allF beginL ((fs.take k).map fmG)).length ≤ fmSize (fs.take k) := allF_len _ _ (fun x hx => HOK.out x (List.mem_of_mem_take hx))
      have HLL := hid (show (allF beginL ((fs.take k).map fmG)).length + (frameB (chainF beginL ((fs.take k).map fmG)) kb p).length ≤ 1000000000 by have := frameB_len (chainF beginL ((fs.take k).map fmG)) p kb hps; omega)
      clear hc hok htk hsz1 hal hkb hgp hbl q2 hps
      generalize chainF beginL ((fs.take k).map fmG) = c at *
      generalize allF beginL ((fs.take k).map fmG) = T at *
      go_wp2_with (first | (refine wpList_load_agg rfl 101 _ rfl _ rfl (fmCells ((kb.toNat : Int), p)) _ HCC.out Try.underlying101 rfl (infoFm _) ?_) | (refine op_allocstoreB (z := [.int .i64 0, .string ByteArray.empty]) (cs := fmCells ((kb.toNat : Int), p)) rfl rfl rfl rfl rfl rfl (fun _ => by kernel_rfl) (fun _ => rfl) (fun _ => rfl) rfl (infoFm _) (oneFm _) ?_) | fail)
      intro g7 w3 hgl hgu hb hr
      have H7 := hid (show w3.heap[g7]? = some (.cells #[.int .i64 (kb.toNat : Int), .string (bs p)] 101 (0, 0)) from hr)
      replace HBD := hid (HBD.out.grow hb)
      replace HG := hid (grow_block HG.out hb)
      replace HB := hid (Grow.trans HB.out hb)
      clear hgl hgu hb hr HCC
      go_wp2_with (first | (refine op_loadId rfl rfl rfl HG.out HC.out ?_) | (refine opG_loadB rfl rfl rfl H7.out Try.underlying101 rfl rfl ?_) | fail)
      refine (jouBytes c p kb HC.out HPS.out HQ.out _).mono ?_
      rintro _ w4 ⟨rfl, hb⟩
      replace HBD := hid (HBD.out.grow hb)
      replace HG := hid (grow_block HG.out hb)
      replace H7 := hid (grow_block H7.out hb)
      replace HB := hid (Grow.trans HB.out hb)
      have hsw : w.heap.size ≤ w4.heap.size := HB.out.size
      clear hb
      go_wp2_with fail
      refine (bdWrite w.heap.size b T (frameB c kb p) _ HLL.out hsw HBD.out).mono ?_
      rintro _ w5 ⟨rfl, hbd, hb, hkp⟩
      replace HBD := hid hbd
      replace HG := hid (hkp _ _ _ _ HG.out (by decide) (by decide))
      replace H7 := hid (hkp _ _ _ _ H7.out (by decide) (by decide))
      replace HB := hid (show Grow w w5 from Below.trans (show Below w.heap.size w w4 from HB.out) hb)
      clear hbd hb hkp hsw
      go_wp2_with (first | (refine op_loadId rfl rfl rfl HG.out HC.out ?_) | (refine opG_loadB rfl rfl rfl H7.out Try.underlying101 rfl rfl ?_) | fail)
      refine (jouNext c p kb HC.out HPS.out HQ.out _).mono ?_
      rintro _ w6 ⟨rfl, hb⟩
      replace HBD := hid (HBD.out.grow hb)
      replace HG := hid (grow_block HG.out hb)
      replace HB := hid (Grow.trans HB.out hb)
      clear hb H7
      go_wp2_with (first | (refine op_storeId (l := nextL c kb p) rfl rfl rfl rfl rfl HG.out HC.out (nextL_length c kb p) ?_) | fail)
      intro w7 hW hgr hbel
      replace HBD := hid (HBD.out.grown hgr HG.out (by decide) (by decide))
      replace HB := hid (show Grow w w7 from hbel _ _ HB.out HGL.out)
      replace HG := hid hW
      clear hW hgr hbel
      go_wp2_with fail
      go_roundg (n + 1 - (k + 1))
      case rel => exact ⟨k + 1, by omega, rfl, by go_num, hid (by rw [HTK.out, HAL.out.1]; exact HBD.out), hid (by rw [HTK.out, HAL.out.2]; exact HG.out), HGL, HB⟩
      case measure => omega
    · obtain rfl : k = n := by omega
      rw [List.take_of_length_le (by rw [HN.out]; omega)] at HBD
      have hsw : w.heap.size ≤ wr.heap.size := HB.out.size
      go_wp2_with fail
      refine (bdString w.heap.size b _ _ HBD.out hsw).mono ?_
      rintro _ w4 ⟨rfl, hb⟩
      have HB4 := hid (show Grow w w4 from Below.trans (show Below w.heap.size w wr from HB.out) hb)
      clear hb
      go_wp2_with fail
      go_ret2
      exact ⟨rfl, HB4.out⟩
end Go.Proofs.Ytabkaflccaklhaa
