/- diff.Size: contract; rows of hunks as the program keeps them. -/
import Derived.Test.YtkbapegohodcgaaQDif6
import Derived.Test.YtkbapegohodcgaaQDis3
set_option linter.unusedSimpArgs false
set_option linter.unusedVariables false
namespace Go.Proofs.Ytkbapegohodcgaa
open Go.RowKit
open Go.Qk hiding rotr b4
set_option maxHeartbeats 1000000
set_option maxRecDepth 100000
/-- A hunk's cells. -/
structure HkV where
  pos : Int
  a : Option Addr
  n : Nat
  c : Nat
  b : Option Addr
  m : Nat
  d : Nat
def HkV.cells (h : HkV) : List Value := [.int .i64 h.pos, .slice h.a h.n h.c, .slice h.b h.m h.d]
def HkV.size (h : HkV) : Nat := h.n + h.m
def hkv0 : HkV := ⟨0, none, 0, 0, none, 0, 0⟩
def HkRow (w : World) (A : Option Addr) (hs : List HkV) : Prop := hs.length ≤ 9223372036854775807 ∧ (hs ≠ [] → ∃ ad, A = some ad ∧ ∀ i, i < hs.length → ∀ j v, (hs.getD i hkv0).cells[j]? = some v → w.cell? ((ad.add (i * 3)).add j) = some v)
theorem HkRow.grow {w w1 : World} {A : Option Addr} {hs : List HkV} (h : HkRow w A hs) (hg : Grow w w1) : HkRow w1 A hs :=
  ⟨h.1, fun hne => by obtain ⟨ad, e, hc⟩ := h.2 hne; exact ⟨ad, e, fun i hi j v hv => grow_cell (hc i hi j v hv) hg⟩⟩
theorem HkRow.at_ {w : World} {A : Option Addr} {hs : List HkV} (h : HkRow w A hs) (i : Nat) (hi : i < hs.length) : ∃ ad, A = some ad ∧ ∀ j v, (hs.getD i hkv0).cells[j]? = some v → w.cell? ((ad.add (i * 3)).add j) = some v := by
  obtain ⟨ad, e, hc⟩ := h.2 (by intro e; subst e; simp at hi)
  exact ⟨ad, e, hc i hi⟩
theorem oneHk (h : HkV) : ∀ v ∈ h.cells, v.oneCell' = true := by
  intro v hv
  simp only [HkV.cells, List.mem_cons, List.not_mem_nil, or_false] at hv
  rcases hv with rfl | rfl | rfl <;> rfl
def sizeV (hs : List HkV) : Nat := (hs.map HkV.size).sum
theorem sizeV_step (hs : List HkV) (k : Nat) (h : k < hs.length) : sizeV (hs.take (k + 1)) = sizeV (hs.take k) + (hs.getD k hkv0).size := by
  unfold sizeV
  rw [List.take_succ_eq_append_getElem h, List.map_append, List.sum_append]
  simp [h]
theorem infoHunkS (h : HkV) : (Try.prog.info? 77).map (·.size) = some h.cells.length := by kernel_rfl
theorem op_loadHk {ops : Array Oper} {Q : Exit → Act → World → Prop} {rest : List Oper} {o : Oper} {a : Act} {w : World} {x : Operand} {ad : Addr} (h : HkV) (hgd : o.guard = none) (ho : o.op = .load 77 x) (hx : a.eval x = .pointer (some ad)) (hc : ∀ j v, h.cells[j]? = some v → w.cell? (ad.add j) = some v)
    (hk : wpList Try.prog ops Q rest (a.put o.dst (.agg h.cells.toArray)) w) : wpList Try.prog ops Q (o :: rest) a w :=
  wpList_load_agg hgd 77 x ho ad hx h.cells _ hc Try.underlying77 rfl (infoHunkS h) hk
theorem diffSize (A : Option Addr) (n c : Nat) (hs : List HkV) (w : World) (hx : HkRow w A hs) (hn : hs.length = n) (hb : ∀ k, k ≤ n → sizeV (hs.take k) ≤ 1000000) (hp : ∀ h ∈ hs, h.n ≤ 1000000 ∧ h.m ≤ 1000000) :
    Calls Try.prog 58 #[.slice A n c] w fun e w' => e = .returned (.int .i64 (sizeV hs : Int)) ∧ Below w.heap.size w w' := by
  subst hn
  have HX := hid hx
  have HS := hid hb
  have HP := hid hp
  have bx := hx.1
  clear hx hb hp
  go_enter Try.func58, Try.ntmps58
  have HB := hid (grow_refl w)
  go_wp2_with fail
  go_loopg [3, 8] (hs.length + 1) (fun z s i wr => ∃ k : Nat, k ≤ hs.length ∧ z = hs.length + 1 - k ∧ i = .int .i64 (k : Int) ∧ s = .int .i64 (sizeV (hs.take k) : Int) ∧ Hid (Grow w wr))
  case atStart => exact ⟨0, by omega, by omega, rfl, rfl, HB⟩
  case round =>
    clear HB
    obtain ⟨k, hk, hz, rfl, rfl, HB⟩ := hrel
    by_cases hlt : k < hs.length
    · have k0 : (0 : Int) ≤ (k : Int) := by omega
      have k1 : (k : Int) < (hs.length : Int) := by omega
      obtain ⟨ad, rfl, hc⟩ := (HX.out.grow HB.out).at_ k hlt
      have HC := hid hc
      have e1 := sizeV_step hs k hlt
      have h1 := HS.out (k + 1) (by omega)
      have h2 := HP.out (hs.getD k hkv0) (by simp [hlt])
      have HE := hid e1
      rw [e1] at h1
      clear hc e1
      generalize sizeV (hs.take k) = s0 at *
      generalize hs.getD k hkv0 = x at *
      obtain ⟨h2, h3⟩ := h2
      have h4 : x.size = x.n + x.m := rfl
      go_wp2_with (first | (refine op_loadHk x rfl rfl rfl HC.out ?_) | (refine op_allocstoreB (z := [.int .i64 0, .slice none 0 0, .slice none 0 0]) (cs := x.cells) rfl rfl rfl rfl rfl rfl (fun _ => by kernel_rfl) (fun _ => rfl) (fun _ => rfl) rfl (infoHunkS x) (oneHk x) ?_) | fail)
      intro g5 w5 hgl hgu hb hr
      have HB5 := hid (Grow.trans HB.out hb)
      have hc1 : w5.cell? ⟨g5, 1, none⟩ = some (.slice x.a x.n x.c) := blk_cell hr rfl
      have hc2 : w5.cell? ⟨g5, 2, none⟩ = some (.slice x.b x.m x.d) := blk_cell hr rfl
      clear hgl hgu hb hr HC HB
      go_wp2_with fail
      go_roundg (hs.length + 1 - (k + 1))
      case rel => exact ⟨k + 1, by omega, rfl, by go_num, by rw [HE.out]; go_num, HB5⟩
      case measure => omega
    · obtain rfl : hs.length = k := by omega
      rw [List.take_length]
      go_wp2_with fail
      go_ret
      exact ⟨rfl, HB.out⟩
end Go.Proofs.Ytkbapegohodcgaa
