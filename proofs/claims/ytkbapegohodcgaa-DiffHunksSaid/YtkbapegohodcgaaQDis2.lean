/- Clones of bytes and of writes; disk: small contracts. -/
import Derived.Test.YtkbapegohodcgaaQDis1
set_option linter.unusedSimpArgs false
set_option linter.unusedVariables false
namespace Go.Proofs.Ytkbapegohodcgaa
open Go.RowKit
open Go.Qk hiding rotr b4
set_option maxHeartbeats 1000000
set_option maxRecDepth 100000
theorem infoWr : (Try.prog.info? 117).map (fun i => (i.zero, i.size, i.bytes)) = some (some (.agg #[.int .i64 0, .string ByteArray.empty]), 2, 24) := by kernel_rfl
theorem bytesClone (v : Value) (l : List UInt8) (B : Nat) (w : World) (hv : Buf 5 B w v l) (hl : l.length ≤ 100000000) :
    Calls Try.prog 82 #[v] w (RetOwn w.heap.size 5 1 l.length (u8s l) w) := by
  have HV := hid hv
  have HL := hid hl
  rcases hv.2 with ⟨rfl, h0⟩ | ⟨g, cap, cur, rfl, _⟩
  · obtain rfl : l = [] := List.eq_nil_of_length_eq_zero h0
    have hnil : ∀ w, (Go.binOp .eql 37 (.slice none 0 0) (.slice none 0 0)).run Try.prog w = .ok (.bool true) w := fun w => Lib.run_eql_slice_nil w _ _ none 0 0 0 0 Try.underlying37
    clear hv hl h0
    go_enter Try.func82, Try.ntmps82
    have HB := hid (grow_refl w)
    go_wp2_with fail
    go_ret
    exact ⟨_, rfl, ⟨by simp [u8s], .inl ⟨rfl, rfl⟩⟩, HB.out⟩
  · have hnil : ∀ w, (Go.binOp .eql 37 (.slice (some ⟨g, 0, none⟩) l.length cap) (.slice none 0 0)).run Try.prog w = .ok (.bool false) w := fun w => Lib.run_eql_slice_nil w _ _ _ _ _ 0 0 Try.underlying37
    obtain ⟨_, _, e1, hsl⟩ := own_sl hv
    cases e1
    have HS := hid hsl
    clear hv hl hsl
    go_enter Try.func82, Try.ntmps82
    have HB := hid (grow_refl w)
    go_wp2_with (refine op_appOwn (news := u8s l) (z := .int .u8 0) rfl rfl Try.underlying37 infoU8 rfl (by decide) rfl rfl (by rw [u8s_length, Nat.mul_one]) (HS.out.grow (grow_alloc _ _)) (fun h => by cases h) (u8s_one l) (empty_row w w.heap.size _ 1 (Nat.le_refl _)) (by simp) (by have := HL.out; omega) (by have := HL.out; omega) ?_)
    intro v2 w2 ho hg hm
    have HO := hid ho
    have HB2 := hid ((grow_alloc w (.cells #[] 5)).grown hg (by simp) (fun k hk => by simp [Value.ownBlock] at hk; omega))
    clear ho hg hm hnil
    go_wp2_with fail
    go_ret
    exact ⟨_, rfl, by simpa using HO.out, HB2.out⟩
def wcells (L : List (Nat × List UInt8)) : List Value := L.flatMap fun x => [.int .i64 (x.1 : Int), .string (bs x.2)]
theorem wcells_length (L : List (Nat × List UInt8)) : (wcells L).length = L.length * 2 := by
  induction L with
  | nil => rfl
  | cons x L ih => simp [wcells] at ih ⊢; omega
theorem wcells_one (L : List (Nat × List UInt8)) : ∀ u ∈ wcells L, u.oneCell' = true := by
  intro u hu
  simp [wcells] at hu
  obtain ⟨a, b, _, rfl | rfl⟩ := hu <;> rfl
theorem wcells_snoc (L : List (Nat × List UInt8)) (p : Nat) (s : List UInt8) : wcells (L ++ [(p, s)]) = wcells L ++ [.int .i64 (p : Int), .string (bs s)] := by simp [wcells]
theorem writesClone (v : Value) (L : List (Nat × List UInt8)) (B : Nat) (w : World) (hv : w.ownsRow B 117 2 v L.length (wcells L)) (hl : L.length ≤ 1000000) :
    Calls Try.prog 83 #[v] w (RetOwn w.heap.size 117 2 L.length (wcells L) w) := by
  have HV := hid hv
  have HL := hid hl
  rcases hv.2 with ⟨rfl, h0⟩ | ⟨g, cap, cur, rfl, _⟩
  · obtain rfl : L = [] := List.eq_nil_of_length_eq_zero h0
    have hnil : ∀ w, (Go.binOp .eql 110 (.slice none 0 0) (.slice none 0 0)).run Try.prog w = .ok (.bool true) w := fun w => Lib.run_eql_slice_nil w _ _ none 0 0 0 0 Try.underlying110
    clear hv hl h0
    go_enter Try.func83, Try.ntmps83
    have HB := hid (grow_refl w)
    go_wp2_with fail
    go_ret
    exact ⟨_, rfl, ⟨rfl, .inl ⟨rfl, rfl⟩⟩, HB.out⟩
  · have hnil : ∀ w, (Go.binOp .eql 110 (.slice (some ⟨g, 0, none⟩) L.length cap) (.slice none 0 0)).run Try.prog w = .ok (.bool false) w := fun w => Lib.run_eql_slice_nil w _ _ _ _ _ 0 0 Try.underlying110
    obtain ⟨_, _, e1, hsl⟩ := own_sl hv
    cases e1
    have HS := hid hsl
    clear hv hl hsl
    go_enter Try.func83, Try.ntmps83
    have HB := hid (grow_refl w)
    go_wp2_with (refine op_appOwn (news := wcells L) (z := .agg #[.int .i64 0, .string ByteArray.empty]) rfl rfl Try.underlying110 infoWr rfl (by decide) rfl rfl (wcells_length L) (HS.out.grow (grow_alloc _ _)) (fun h => by cases h) (wcells_one L) (empty_row w w.heap.size _ 2 (Nat.le_refl _)) (by simp) (by have := HL.out; omega) (by have := HL.out; omega) ?_)
    intro v2 w2 ho hg hm
    have HO := hid ho
    have HB2 := hid ((grow_alloc w (.cells #[] 117)).grown hg (by simp) (fun k hk => by simp [Value.ownBlock] at hk; omega))
    clear ho hg hm hnil
    go_wp2_with fail
    go_ret
    exact ⟨_, rfl, by simpa using HO.out, HB2.out⟩
def dkC (kv sv wv : Value) (down : Bool) : Array Value := #[kv, sv, wv, .bool down, .bool false, .int .i64 0, .int .u64 0, .int .i64 0]
abbrev dkO (kv sv wv : Value) (down : Bool) : Obj := .cells (dkC kv sv wv down) 114 (0, 0)
structure IsDisk (B : Nat) (w : World) (g : Nat) (kv sv wv : Value) (K S : List UInt8) (L : List (Nat × List UInt8)) (down : Bool) : Prop where
  blk : w.heap[g]? = some (dkO kv sv wv down)
  gB : B ≤ g
  k : Buf 5 B w kv K
  s : Buf 5 B w sv S
  l : w.ownsRow B 117 2 wv L.length (wcells L)
  tw : Twain kv sv
theorem IsDisk.grow {B : Nat} {w w1 : World} {g : Nat} {kv sv wv : Value} {K S : List UInt8} {L : List (Nat × List UInt8)} {down : Bool} (h : IsDisk B w g kv sv wv K S L down) (hg : Grow w w1) : IsDisk B w1 g kv sv wv K S L down :=
  ⟨grow_block h.blk hg, h.gB, h.k.grow hg, h.s.grow hg, own_grow h.l hg, h.tw⟩
theorem dkNew (w : World) : Calls Try.prog 14 #[] w fun e w' => ∃ g, e = .returned (.pointer (some ⟨g, 0, none⟩)) ∧ IsDisk w.heap.size w' g (.slice none 0 0) (.slice none 0 0) (.slice none 0 0) [] [] [] false ∧ Below w.heap.size w w' := by
  go_enter Try.func14, Try.ntmps14
  have HB := hid (grow_refl w)
  go_wp2_with fail
  go_ret
  exact ⟨_, rfl, ⟨heap_alloc_new _ _, Nat.le_refl _, buf_nil _ _ _, buf_nil _ _ _, World.ownsRow_nil _ _ _ _, twain_nil _⟩, (Below.refl _ _).alloc (Nat.le_refl _) _⟩
theorem dkLen (g : Nat) (kv wv : Value) (A : Option Addr) (n c : Nat) (down : Bool) (w : World) (hg : w.heap[g]? = some (dkO kv (.slice A n c) wv down)) :
    Calls Try.prog 17 #[.pointer (some ⟨g, 0, none⟩)] w fun e w' => e = .returned (.int .i64 (n : Int)) ∧ w = w' := by
  have HG := hid hg
  clear hg
  go_enter Try.func17, Try.ntmps17
  have HB := hid (grow_refl w)
  go_wp2_with (first | (refine opG_load1 (i := 0) (v := kv) rfl rfl rfl HG.out rfl Try.underlying37 rfl ?_) | (refine opG_load1 (i := 1) (v := (.slice A n c)) rfl rfl rfl HG.out rfl Try.underlying37 rfl ?_) | (refine opG_load1 (i := 2) (v := wv) rfl rfl rfl HG.out rfl Try.underlying110 rfl ?_) | (refine opG_load1 (i := 3) (v := (.bool down)) rfl rfl rfl HG.out rfl Try.underlying4 rfl ?_) | (refine opG_load1 (i := 4) (v := (.bool false)) rfl rfl rfl HG.out rfl Try.underlying4 rfl ?_) | (refine opG_load1 (i := 5) (v := (.int .i64 0)) rfl rfl rfl HG.out rfl Try.underlying3 rfl ?_) | (refine opG_load1 (i := 6) (v := (.int .u64 0)) rfl rfl rfl HG.out rfl Try.underlying23 rfl ?_) | (refine opG_load1 (i := 7) (v := (.int .i64 0)) rfl rfl rfl HG.out rfl Try.underlying3 rfl ?_) |  fail)
  go_ret
  exact ⟨rfl, rfl⟩
theorem dkAll (g : Nat) (kv sv wv : Value) (l : List UInt8) (B : Nat) (down : Bool) (w : World) (hg : w.heap[g]? = some (dkO kv sv wv down)) (hs : Buf 5 B w sv l) :
    Calls Try.prog 21 #[.pointer (some ⟨g, 0, none⟩)] w fun e w' => e = .returned (.string (bs l)) ∧ w = w' := by
  have HG := hid hg
  have hcv := buf_str (P := Try.prog) 37 5 9 Try.underlying37 Try.underlying5 Try.underlying9 _ _ hs
  clear hg hs
  go_enter Try.func21, Try.ntmps21
  have HB := hid (grow_refl w)
  go_wp2_with (first | (refine opG_load1 (i := 0) (v := kv) rfl rfl rfl HG.out rfl Try.underlying37 rfl ?_) | (refine opG_load1 (i := 1) (v := sv) rfl rfl rfl HG.out rfl Try.underlying37 rfl ?_) | (refine opG_load1 (i := 2) (v := wv) rfl rfl rfl HG.out rfl Try.underlying110 rfl ?_) | (refine opG_load1 (i := 3) (v := (.bool down)) rfl rfl rfl HG.out rfl Try.underlying4 rfl ?_) | (refine opG_load1 (i := 4) (v := (.bool false)) rfl rfl rfl HG.out rfl Try.underlying4 rfl ?_) | (refine opG_load1 (i := 5) (v := (.int .i64 0)) rfl rfl rfl HG.out rfl Try.underlying3 rfl ?_) | (refine opG_load1 (i := 6) (v := (.int .u64 0)) rfl rfl rfl HG.out rfl Try.underlying23 rfl ?_) | (refine opG_load1 (i := 7) (v := (.int .i64 0)) rfl rfl rfl HG.out rfl Try.underlying3 rfl ?_) |  fail)
  go_ret
  exact ⟨rfl, rfl⟩
theorem dkKept (g : Nat) (kv sv wv : Value) (l : List UInt8) (B : Nat) (down : Bool) (w : World) (hg : w.heap[g]? = some (dkO kv sv wv down)) (hs : Buf 5 B w kv l) :
    Calls Try.prog 19 #[.pointer (some ⟨g, 0, none⟩)] w fun e w' => e = .returned (.string (bs l)) ∧ w = w' := by
  have HG := hid hg
  have hcv := buf_str (P := Try.prog) 37 5 9 Try.underlying37 Try.underlying5 Try.underlying9 _ _ hs
  clear hg hs
  go_enter Try.func19, Try.ntmps19
  have HB := hid (grow_refl w)
  go_wp2_with (first | (refine opG_load1 (i := 0) (v := kv) rfl rfl rfl HG.out rfl Try.underlying37 rfl ?_) | (refine opG_load1 (i := 1) (v := sv) rfl rfl rfl HG.out rfl Try.underlying37 rfl ?_) | (refine opG_load1 (i := 2) (v := wv) rfl rfl rfl HG.out rfl Try.underlying110 rfl ?_) | (refine opG_load1 (i := 3) (v := (.bool down)) rfl rfl rfl HG.out rfl Try.underlying4 rfl ?_) | (refine opG_load1 (i := 4) (v := (.bool false)) rfl rfl rfl HG.out rfl Try.underlying4 rfl ?_) | (refine opG_load1 (i := 5) (v := (.int .i64 0)) rfl rfl rfl HG.out rfl Try.underlying3 rfl ?_) | (refine opG_load1 (i := 6) (v := (.int .u64 0)) rfl rfl rfl HG.out rfl Try.underlying23 rfl ?_) | (refine opG_load1 (i := 7) (v := (.int .i64 0)) rfl rfl rfl HG.out rfl Try.underlying3 rfl ?_) |  fail)
  go_ret
  exact ⟨rfl, rfl⟩
theorem dkDown (g : Nat) (kv sv wv : Value) (down : Bool) (w : World) (hg : w.heap[g]? = some (dkO kv sv wv down)) :
    Calls Try.prog 75 #[.pointer (some ⟨g, 0, none⟩)] w fun e w' => e = .returned (.bool down) ∧ w = w' := by
  have HG := hid hg
  clear hg
  go_enter Try.func75, Try.ntmps75
  have HB := hid (grow_refl w)
  go_wp2_with (first | (refine opG_load1 (i := 0) (v := kv) rfl rfl rfl HG.out rfl Try.underlying37 rfl ?_) | (refine opG_load1 (i := 1) (v := sv) rfl rfl rfl HG.out rfl Try.underlying37 rfl ?_) | (refine opG_load1 (i := 2) (v := wv) rfl rfl rfl HG.out rfl Try.underlying110 rfl ?_) | (refine opG_load1 (i := 3) (v := (.bool down)) rfl rfl rfl HG.out rfl Try.underlying4 rfl ?_) | (refine opG_load1 (i := 4) (v := (.bool false)) rfl rfl rfl HG.out rfl Try.underlying4 rfl ?_) | (refine opG_load1 (i := 5) (v := (.int .i64 0)) rfl rfl rfl HG.out rfl Try.underlying3 rfl ?_) | (refine opG_load1 (i := 6) (v := (.int .u64 0)) rfl rfl rfl HG.out rfl Try.underlying23 rfl ?_) | (refine opG_load1 (i := 7) (v := (.int .i64 0)) rfl rfl rfl HG.out rfl Try.underlying3 rfl ?_) |  fail)
  go_ret
  exact ⟨rfl, rfl⟩
theorem dkBurn (g : Nat) (kv sv wv : Value) (down : Bool) (w : World) (hg : w.heap[g]? = some (dkO kv sv wv down)) :
    Calls Try.prog 79 #[.pointer (some ⟨g, 0, none⟩)] w fun e w' => e = .returned (.bool true) ∧ w = w' := by
  have HG := hid hg
  clear hg
  go_enter Try.func79, Try.ntmps79
  have HB := hid (grow_refl w)
  go_wp2_with (first | (refine opG_load1 (i := 0) (v := kv) rfl rfl rfl HG.out rfl Try.underlying37 rfl ?_) | (refine opG_load1 (i := 1) (v := sv) rfl rfl rfl HG.out rfl Try.underlying37 rfl ?_) | (refine opG_load1 (i := 2) (v := wv) rfl rfl rfl HG.out rfl Try.underlying110 rfl ?_) | (refine opG_load1 (i := 3) (v := (.bool down)) rfl rfl rfl HG.out rfl Try.underlying4 rfl ?_) | (refine opG_load1 (i := 4) (v := (.bool false)) rfl rfl rfl HG.out rfl Try.underlying4 rfl ?_) | (refine opG_load1 (i := 5) (v := (.int .i64 0)) rfl rfl rfl HG.out rfl Try.underlying3 rfl ?_) | (refine opG_load1 (i := 6) (v := (.int .u64 0)) rfl rfl rfl HG.out rfl Try.underlying23 rfl ?_) | (refine opG_load1 (i := 7) (v := (.int .i64 0)) rfl rfl rfl HG.out rfl Try.underlying3 rfl ?_) |  fail)
  go_ret
  exact ⟨rfl, rfl⟩
end Go.Proofs.Ytkbapegohodcgaa
