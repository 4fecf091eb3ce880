/- diff.Of's closure where no hunk is open: contract. -/
import Derived.Test.YtkbapegohodcgaaQDif9
set_option linter.unusedSimpArgs false
set_option linter.unusedVariables false
namespace Go.Proofs.Ytkbapegohodcgaa
open Go.RowKit
open Go.Qk hiding rotr b4
set_option maxHeartbeats 1000000
set_option maxRecDepth 100000
theorem infoHks : (Try.prog.info? 65).map (·.size) = some 1 := by kernel_rfl
theorem infoBoolS : (Try.prog.info? 4).map (·.size) = some 1 := by kernel_rfl
theorem oneHk3 {j : Int} : ∀ v ∈ [Value.int .i64 j, Value.slice none 0 0, Value.slice none 0 0], v.oneCell' = true := by
  intro v hv
  simp only [List.mem_cons, List.not_mem_nil, or_false] at hv
  rcases hv with rfl | rfl | rfl <;> rfl
theorem slHk (w : World) (l : List Value) (t : TypeId) : SlCells (w.alloc (Obj.cells l.toArray t)) (some ⟨w.heap.size, 0, none⟩) l := fun _ => ⟨_, rfl, cells_block (tl := []) (by rw [List.append_nil]; exact heap_alloc_new _ _)⟩
theorem growNew (g8 g7 g10 j n B : Nat) (hn : n ≤ 100000) (ov : Value) (cs : List Value) (w : World) (h8 : w.heap[g8]? = some (.cells #[.bool false] 4 (0, 0))) (h7 : w.heap[g7]? = some (.cells #[ov] 65 (0, 0))) (h10 : w.heap[g10]? = some (.cells #[.int .i64 (j : Int)] 3 (0, 0)))
    (ho : w.ownsRow B 77 3 ov n cs) (hB : B ≤ w.heap.size) :
    Calls Try.prog 97 #[.pointer (some ⟨g8, 0, none⟩), .pointer (some ⟨g7, 0, none⟩), .pointer (some ⟨g10, 0, none⟩)] w fun e w' => ∃ gb c, e = .returned (.pointer (some ⟨gb, n * 3, none⟩)) ∧ w'.ownsRow B 77 3 (.slice (some ⟨gb, 0, none⟩) (n + 1) c) (n + 1) (cs ++ [.int .i64 (j : Int), .slice none 0 0, .slice none 0 0]) ∧ w'.heap[g7]? = some (.cells #[.slice (some ⟨gb, 0, none⟩) (n + 1) c] 65 (0, 0)) ∧ w'.heap[g8]? = some (.cells #[.bool true] 4 (0, 0)) ∧ Fr (fun k => k = g7 ∨ k = g8 ∨ ov.ownBlock = some k) w w' ∧ Moved w ov (.slice (some ⟨gb, 0, none⟩) (n + 1) c) := by
  have H8 := hid h8
  have H7 := hid h7
  have H10 := hid h10
  have HO := hid ho
  have HBW := hid hB
  clear h8 h7 h10 ho hB
  go_enter Try.func97, Try.ntmps97
  have HB := hid (grow_refl w)
  go_wp2_with (first | (refine opG_load1 (i := 0) (v := (.bool false)) rfl rfl rfl H8.out rfl Try.underlying4 rfl ?_) | (refine opG_load1 (i := 0) (v := (ov)) rfl rfl rfl H7.out rfl Try.underlying65 rfl ?_) | (refine opG_load1 (i := 0) (v := (.int .i64 (j : Int))) rfl rfl rfl H10.out rfl Try.underlying3 rfl ?_) | (refine op_appOwn (n := n) (m := 1) (v := ov) (B := B) (news := [.int .i64 (j : Int), .slice none 0 0, .slice none 0 0]) rfl rfl Try.underlying65 infoHunk rfl (by decide) rfl rfl rfl (slHk _ _ _) (fun h => by cases h) oneHk3 (own_grow HO.out (grow_alloc _ _)) (Nat.le_trans HBW.out (grow_alloc _ _).size) (by omega) (by omega) ?_) |  fail)
  intro v1 w1 ho1 hgr hm
  have hga := grow_alloc w (Obj.cells #[Value.int .i64 (j : Int), Value.slice none 0 0, Value.slice none 0 0] 77)
  have H71 := hid (blk_other' hgr (grow_block H7.out hga) (own_ne_blk HO.out H7.out (by decide)))
  have H81 := hid (blk_other' hgr (grow_block H8.out hga) (own_ne_blk HO.out H8.out (by decide)))
  have hms := hm.mono hga.size
  have HF1 := hid (show Fr (fun k => k = g7 ∨ k = g8 ∨ ov.ownBlock = some k) w w1 from (fr_grow hga).trans (fr_grown hgr (fun k hk => .inl (.inr (.inr hk)))))
  obtain ⟨gb, c, rfl, hb1⟩ : ∃ gb c, v1 = .slice (some ⟨gb, 0, none⟩) (n + 1) c ∧ B ≤ gb := by
    rcases ho1.2 with ⟨_, h0⟩ | ⟨g, cap, cur, rfl, h1, _⟩
    · omega
    · exact ⟨g, cap, rfl, h1⟩
  have HO1 := hid ho1
  have HM1 := hid hms
  clear ho1 hgr hm hga hms hb1 HB
  go_wp2_with (first | (refine op_store1 (g := g7) (i := 0) (v := .slice (some ⟨gb, 0, none⟩) (n + 1) c) rfl rfl rfl rfl rfl H71.out rfl rfl infoHks (by simp) ?_) | fail)
  intro w2 hW hgr _
  have h78 : g7 ≠ g8 := blk_ne H71.out H81.out (by decide)
  have H72 := hid (show w2.heap[g7]? = some (.cells #[.slice (some ⟨gb, 0, none⟩) (n + 1) c] 65 (0, 0)) by simpa using hW)
  have H82 := hid (blk_other' hgr H81.out (fun e => h78 (Option.some.inj e)))
  have hf2 : Fr (fun k => k = g7) w1 w2 := fr_grown hgr (fun k hk => .inl (Option.some.inj hk).symm)
  have HO2 := hid (hf2.own HO1.out (fun k hk e => own_ne_blk HO1.out H71.out (by decide) (by rw [hk, e])))
  have HF2 := hid (HF1.out.trans (hf2.mono fun k hk => .inl hk))
  clear hW hgr hf2 H71 H81 HO1 HF1
  go_wp2_with (first | (refine op_store1 (g := g8) (i := 0) (v := .bool true) rfl rfl rfl rfl rfl H82.out rfl rfl infoBoolS (by simp) ?_) | fail)
  intro w3 hW hgr _
  have H83 := hid (show w3.heap[g8]? = some (.cells #[.bool true] 4 (0, 0)) by simpa using hW)
  have H73 := hid (blk_other' hgr H72.out (fun e => h78 (Option.some.inj e).symm))
  have hf3 : Fr (fun k => k = g8) w2 w3 := fr_grown hgr (fun k hk => .inl (Option.some.inj hk).symm)
  have HO3 := hid (hf3.own HO2.out (fun k hk e => own_ne_blk HO2.out H82.out (by decide) (by rw [hk, e])))
  have HF3 := hid (HF2.out.trans (hf3.mono fun k hk => .inr (.inl hk)))
  clear hW hgr hf3 H72 H82 HO2 HF2 h78
  have h7 : w3.cell? ⟨g7, 0, none⟩ = some (.slice (some ⟨gb, 0, none⟩) (n + 1) c) := blk_cell H73.out rfl
  have n0 : (0 : Int) ≤ (n : Int) := by omega
  have n1 : (n : Int) < (n : Int) + 1 := by omega
  have n2 : (n : Int) + 1 - 1 = (n : Int) := by omega
  go_wp2_with fail
  go_ret
  exact ⟨gb, c, rfl, HO3.out, H73.out, H83.out, HF3.out, HM1.out⟩
end Go.Proofs.Ytkbapegohodcgaa
