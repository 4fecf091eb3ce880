/- strings.Builder.WriteString, String: contracts. -/
import Derived.Test.YtabkaflccaklhaaQJou6
import Derived.Test.YtabkaflccaklhaaQShelf
import Derived.Lib.Builder
set_option linter.unusedSimpArgs false
set_option linter.unusedVariables false
namespace Go.Proofs.Ytabkaflccaklhaa
open Go.RowKit
open Go.Qk hiding rotr b4
open Pac
set_option maxHeartbeats 1000000
set_option maxRecDepth 100000
theorem infoBd : (Try.prog.info? 114).map (·.size) = some 2 := by kernel_rfl
theorem bdLies : liesAt Try.prog Try.prog.depth 114 (2 / Try.prog.cellsOf 114) 0 114 1 = true := by kernel_rfl
theorem bdCheck_used (b : Nat) (w : World) (h0 : w.cell? ⟨b, 0, none⟩ = some (.pointer (some ⟨b, 0, none⟩))) :
    Calls Try.prog 120 #[.pointer (some ⟨b, 0, none⟩)] w fun e w' => e = .returned (.tuple #[]) ∧ w' = w := by
  obtain ⟨j, hj, _⟩ := Option.map_eq_some_iff.1 infoBd
  go_enter Try.func120, Try.ntmps120
  go_wp2
  rw [Lib.run_neq_ptr_same w _ Try.underlying112 hj]
  go_wp2
  go_end0
  exact ⟨rfl, rfl⟩
theorem bdCheck_fresh (b : Nat) (w : World) (h0 : w.cell? ⟨b, 0, none⟩ = some (.pointer none)) (hsh : w.shape? b = some (114, 2)) (hfz : w.frozen? ⟨b, 0, none⟩ = false) :
    Calls Try.prog 120 #[.pointer (some ⟨b, 0, none⟩)] w fun e w' => e = .returned (.tuple #[]) ∧ w' = w.setCell ⟨b, 0, none⟩ (.pointer (some ⟨b, 0, none⟩)) := by
  obtain ⟨j, hj, hjs⟩ := Option.map_eq_some_iff.1 infoBd
  go_enter Try.func120, Try.ntmps120
  go_wp2
  rw [Lib.run_to_unsafe w ⟨b, 0, none⟩ Try.underlying112 Try.underlying262 hj (by rw [hjs]; decide) hsh (Nat.zero_lt_succ 1)]
  simp only [Result.andThen]
  rw [Oper.upon_value]
  go_wp2
  rw [run_callFunc_extern Try.func180 (by kernel_rfl) (by kernel_rfl) (by kernel_rfl) (e := Extern.AbiNoEscape.same) (by kernel_rfl)]
  rw [Lib.run_noEscape]
  simp only [Result.andThen]
  rw [Oper.upon_value]
  go_wp2
  rw [Lib.run_from_unsafe w ⟨b, 0, none⟩ Try.underlying262 Try.underlying112 hj hsh bdLies]
  simp only [Result.andThen]
  rw [Oper.upon_value]
  go_wp2
  go_end0
  exact ⟨rfl, rfl⟩
abbrev IsBd (B b : Nat) (l : List UInt8) (w : World) : Prop := Lib.IsBuilder 114 5 B b (u8s l) w
/-- Blocks that are neither a builder nor bytes stay. -/
def Kp (w w' : World) : Prop := ∀ (k : Nat) (cs : Array Value) (t : TypeId) (fr : Nat × Nat), w.heap[k]? = some (.cells cs t fr) → t ≠ 114 → t ≠ 5 → w'.heap[k]? = some (.cells cs t fr)
theorem Kp.trans {a b c : World} (h : Kp a b) (k : Kp b c) : Kp a c := fun i cs t fr hi h1 h2 => k i cs t fr (h i cs t fr hi h1 h2) h1 h2
theorem Kp.grown {w w' : World} {row : Option Nat} {T : TypeId} (hg : w.grownBy w' row) (hr : ∀ k, row = some k → ∃ cs fr, w.heap[k]? = some (.cells cs T fr)) (hT : T = 114 ∨ T = 5) : Kp w w' := fun k cs t fr hk h1 h2 => blk_other' hg hk (fun e => by
  obtain ⟨cs', fr', h'⟩ := hr k e
  rcases hT with rfl | rfl
  · exact blk_ne hk h' h1 rfl
  · exact blk_ne hk h' h2 rfl)
theorem bdCheck (B b : Nat) (l : List UInt8) (w : World) (h : IsBd B b l w) :
    Calls Try.prog 120 #[.pointer (some ⟨b, 0, none⟩)] w fun e w' => e = .returned (.tuple #[]) ∧ (Lib.BuilderAt 114 5 B b (.pointer (some ⟨b, 0, none⟩)) (u8s l) w' ∧ Below B w w' ∧ Kp w w') := by
  rcases h with h | h
  · refine (bdCheck_fresh b w h.cell0 h.shape h.frozen0).mono ?_
    rintro e w' ⟨rfl, rfl⟩
    refine ⟨rfl, h.used _, (Below.refl B w).setCell (p := ⟨b, 0, none⟩) h.1 _, fun k cs t fr hk h1 _ => ?_⟩
    obtain ⟨_, v, hb, _⟩ := h
    rw [heap_setCell_other w _ k _ (fun e => by cases e; exact blk_ne hk hb h1 rfl)]
    exact hk
  · refine (bdCheck_used b w h.cell0).mono ?_
    rintro e w' ⟨rfl, rfl⟩
    exact ⟨rfl, h, Below.refl B _, fun _ _ _ _ hk _ _ => hk⟩
theorem bdWrite (B b : Nat) (l s : List UInt8) (w : World) (hl : l.length + s.length ≤ 1000000000) (hB : B ≤ w.heap.size) (h : IsBd B b l w) :
    Calls Try.prog 60 #[.pointer (some ⟨b, 0, none⟩), .string (bs s)] w fun e w' => e = .returned (.tuple #[.int .i64 (s.length : Int), .nilIface]) ∧ IsBd B b (l ++ s) w' ∧ Below B w w' ∧ Kp w w' := by
  have HC := hid (bdCheck B b l w h)
  have HL := hid hl
  have HBW := hid hB
  have hsz := bs_size s
  clear h hl hB
  go_enter Try.func60, Try.ntmps60
  have HB := hid (grow_refl w)
  go_wp2_with fail
  refine HC.out.mono ?_
  rintro _ w1 ⟨rfl, h1, hb1, hk1⟩
  have HK1 := hid hk1
  clear hk1
  obtain ⟨hBb, v, hbk, hown, hne⟩ := h1
  have HBK := hid hbk
  have HV := hid (show Buf 5 B w1 v l by unfold Buf; rw [← u8s_length l]; exact hown)
  have HB1 := hid hb1
  have HBB := hid hBb
  have HSZ := hid (Nat.le_trans HBW.out hb1.size)
  have x1 := blk_cell (i := 1) (v := v) hbk rfl
  clear hbk hown hne hb1 hBb HC HB
  go_wp2_with (first | (refine op_appStr (t := 51) (u := 9) (e := 5) (B := B) rfl rfl Try.underlying51 Try.underlying9 infoU8 rfl rfl HV.out HSZ.out (by have := HL.out; rw [hsz]; omega) ?_) | fail)
  intro v3 w3 ho hg
  have HO := hid (show Buf 5 B w3 v3 (l ++ s) by simpa only [bl_bs] using ho)
  have hnb := own_ne_blk HV.out HBK.out (by decide)
  have HG3 := hid (blk_other' hg HBK.out hnb)
  have HB3 := hid (show Below B w w3 from HB1.out.trans ((fr_grown (D := fun k => v.ownBlock = some k) hg (fun k hk => .inl hk)).below (fun k hk => (own_lt HV.out hk).1) HSZ.out))
  have HK3 := hid (HK1.out.trans (Kp.grown (T := 5) hg (fun k hk => by obtain ⟨cs, fr, h⟩ := own_blk_t HV.out hk; exact ⟨cs, fr, h⟩) (.inr rfl)))
  clear ho hg hnb x1
  go_wp2_with (first | (refine op_store1 (g := b) (i := 1) (v := v3) rfl rfl rfl rfl rfl HG3.out (own_cells HO.out) (own_oneCell HO.out) infoBs' (by simp) ?_) | fail)
  intro w4 hg4 hgr4 hbel4
  have hno := own_ne_blk HO.out HG3.out (by decide)
  have HO4 := hid (show Buf 5 B w4 v3 (l ++ s) from (fr_grown (D := fun k => k = b) hgr4 (fun k hk => .inl (Option.some.inj hk).symm)).own HO.out (fun k hk e => hno (by rw [hk, e])))
  have HG4 := hid (show w4.heap[b]? = some (.cells #[.pointer (some ⟨b, 0, none⟩), v3] 114 (0, 0)) from hg4)
  have HB4 := hid (hbel4 _ _ HB3.out HBB.out)
  have HNO := hid hno
  have HK4 := hid (HK3.out.trans (Kp.grown (T := 114) hgr4 (fun k hk => by cases hk; exact ⟨_, _, HG3.out⟩) (.inl rfl)))
  clear hg4 hgr4 hbel4 hno
  go_wp2_with fail
  go_ret2
  exact ⟨rfl, .inr ⟨HBB.out, v3, HG4.out, by have h := HO4.out; unfold Buf at h; rw [← u8s_length (l ++ s)] at h; exact h, HNO.out⟩, HB4.out, HK4.out⟩
theorem bdString (B b : Nat) (l : List UInt8) (w : World) (h : IsBd B b l w) (hB : B ≤ w.heap.size) :
    Calls Try.prog 61 #[.pointer (some ⟨b, 0, none⟩)] w fun e w' => e = .returned (.string (bs l)) ∧ Below B w w' :=
  Try.Builder_String_any B b l w h hB
end Go.Proofs.Ytabkaflccaklhaa
