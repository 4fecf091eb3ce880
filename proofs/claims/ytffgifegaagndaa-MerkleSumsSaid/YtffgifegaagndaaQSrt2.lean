/- slices.SortFunc on a row of ids of the call's own. -/
import Derived.Test.YtffgifegaagndaaQSrt1
set_option linter.unusedSimpArgs false
set_option linter.unusedVariables false
namespace Go.Proofs.Ytffgifegaagndaa
open Go.RowKit
open Go.Qk hiding rotr b4
set_option maxHeartbeats 1000000
set_option maxRecDepth 100000
abbrev Id32 := {l : List UInt8 // l.length = 32}
instance : Inhabited Id32 := ⟨⟨List.replicate 32 0, by simp⟩⟩
def enc32 (x : Id32) : List Value := u8s x.1
def cf32 (x y : Id32) : Int := Lib.compareBytes x.1 y.1
theorem enc32_length (x : Id32) : (enc32 x).length = 32 := by rw [enc32, u8s_length, x.2]
theorem lt32 (x y : Id32) : Go.Proofs.ltOf cf32 x y = lexLess x.1 y.1 := by
  unfold Go.Proofs.ltOf cf32
  exact cmp_less _ _ (by rw [x.2, y.2])
theorem lexLess_irrefl (l : List UInt8) : lexLess l l = false := by
  cases h : lexLess l l with
  | false => rfl
  | true => have := lexLess_asymm _ _ h; rw [h] at this; cases this
theorem lexLess_ntrans (x y z : List UInt8) (h1 : x.length = 32) (h2 : y.length = 32) (h3 : z.length = 32) (a : lexLess x y = false) (b : lexLess y z = false) : lexLess x z = false := by
  cases h : lexLess x z with
  | false => rfl
  | true =>
    cases hy : lexLess y x with
    | true => rw [lexLess_trans _ _ _ hy h] at b; cases b
    | false =>
      have e := lexLess_tri x y (by omega) a hy
      subst e
      rw [h] at b
      cases b
theorem swo32 : Go.Sort.SWO (Go.Proofs.ltOf cf32) where
  irrefl x := by rw [lt32]; exact lexLess_irrefl _
  trans x y z h1 h2 := by rw [lt32] at *; exact lexLess_trans _ _ _ h1 h2
  ntrans x y z h1 h2 := by rw [lt32] at *; exact lexLess_ntrans _ _ _ x.2 y.2 z.2 h1 h2
theorem tot32 (x y : Id32) (h1 : Go.Proofs.ltOf cf32 x y = false) (h2 : Go.Proofs.ltOf cf32 y x = false) : x = y := by
  rw [lt32] at h1 h2
  exact Subtype.ext (lexLess_tri _ _ (by rw [x.2, y.2]) h1 h2)
def sorted32 (ds : List Id32) : List Id32 := ds.mergeSort fun x y => !(Go.Proofs.ltOf cf32) y x
theorem ex32 : ∀ (xs : List (List UInt8)), (∀ s ∈ xs, s.length = 32) → ∃ ds : List Id32, ds.map (·.1) = xs
  | [], _ => ⟨[], rfl⟩
  | x :: xs, h => by
    obtain ⟨ds, hd⟩ := ex32 xs (fun s hs => h s (List.mem_cons_of_mem _ hs))
    exact ⟨⟨x, h x List.mem_cons_self⟩ :: ds, by rw [List.map_cons, hd]⟩
theorem flat32 (ds : List Id32) (t : Nat) (h : t < ds.length * 32) : (idCells (ds.map (·.1)))[t]? = some (Go.Sort.flatK enc32 32 ds.toArray)[t]! := by
  have h32 : ∀ s ∈ ds.map (·.1), s.length = 32 := by
    intro s hs
    obtain ⟨d, _, rfl⟩ := List.mem_map.1 hs
    exact d.2
  have hi : t / 32 < ds.length := by omega
  have hj : t % 32 < 32 := Nat.mod_lt _ (by omega)
  rw [Go.Sort.get_flatK _ _ _ _ (by simpa using h)]
  have e1 : ds.toArray[t / 32]! = ds[t / 32] := by simp [hi]
  have e2 : (ds.map (·.1)).getD (t / 32) [] = (ds[t / 32]).1 := by simp [hi]
  rw [e1]
  have hl : t % 32 < (u8s (ds[t / 32]).1).length := by rw [u8s_length, (ds[t / 32]).2]; exact hj
  have := idCells_get _ h32 (t / 32) (by simpa using hi) (t % 32) ((u8s (ds[t / 32]).1)[t % 32]) (by rw [e2]; exact List.getElem?_eq_getElem hl)
  rw [show t / 32 * 32 + t % 32 = t by omega] at this
  rw [this, enc32, getElem!_pos (u8s (ds[t / 32]).1) (t % 32) hl]
theorem holds32 {w : World} {g : Nat} {cur : Array Value} {e : TypeId} (ds : List Id32) (hg : w.heap[g]? = some (.cells cur e (0, 0))) (hc : cur.toList.take (ds.length * 32) = idCells (ds.map (·.1))) : Go.Sort.HoldsK enc32 32 w g 0 ds.toArray := by
  intro j hj
  have hj' : j < ds.length * 32 := by simpa using hj
  refine ⟨?_, by simp [World.frozen?, hg]⟩
  have h1 : (cur.toList.take (ds.length * 32))[j]? = (idCells (ds.map (·.1)))[j]? := by rw [hc]
  rw [List.getElem?_take_of_lt hj', flat32 ds j hj'] at h1
  simp only [World.cell?, hg, Nat.zero_add]
  simp only [Option.isSome_none, Bool.false_eq_true, if_false]
  rw [← Array.getElem?_toList, h1]
  rfl
theorem take_put32 (cur : Array Value) (ts : List Id32) (h : ts.length * 32 ≤ cur.size) : (Go.Sort.putCells id 0 (Go.Sort.flatK enc32 32 ts.toArray) cur).toList.take (ts.length * 32) = idCells (ts.map (·.1)) := by
  have h32 : ∀ s ∈ ts.map (·.1), s.length = 32 := by
    intro s hs
    obtain ⟨d, _, rfl⟩ := List.mem_map.1 hs
    exact d.2
  apply List.ext_getElem?
  intro j
  by_cases hj : j < ts.length * 32
  · rw [List.getElem?_take_of_lt hj, Array.getElem?_toList, flat32 ts j hj]
    simp only [Go.Sort.putCells, Array.getElem?_mapIdx, Go.Sort.size_flatK, Nat.zero_le, true_and, Nat.zero_add, Nat.sub_zero]
    rw [Array.getElem?_eq_getElem (by omega), Option.map_some, if_pos (by simpa using hj)]
    rfl
  · rw [List.getElem?_take_eq_none (by omega), List.getElem?_eq_none (by rw [idCells_length _ h32, List.length_map]; omega)]
theorem sort_heap {w : World} {g n : Nat} {os : Array Obj} {cur : Array Value} {e : TypeId} {fr : Nat × Nat} (d : Array Id32) (hb : w.heap[g]? = some (.cells cur e fr)) :
    (Go.Proofs.sortWorldK enc32 32 w g 0 n d os).heap[g]? = some (.cells (Go.Sort.putCells id 0 (Go.Sort.flatK enc32 32 d) cur) e fr) := by
  have hg : g < w.heap.size := (Array.getElem?_eq_some_iff.1 hb).1
  unfold Go.Proofs.sortWorldK Go.Sort.putRowK
  rw [Go.Sort.heap_grow_old _ _ (by simpa using hg)]
  simp [Go.Sort.putRow, Go.Sort.mapBlock, Go.Sort.ahead, Array.getElem?_modify, hb, Go.Sort.onCells]
theorem sort_grown {w : World} {g n : Nat} {os : Array Obj} (d : Array Id32) : w.grownBy (Go.Proofs.sortWorldK enc32 32 w g 0 n d os) (some g) := by
  unfold Go.Proofs.sortWorldK Go.Sort.putRowK
  refine ⟨rfl, rfl, rfl, by simp, fun k hk hne => ?_⟩
  rw [Go.Sort.heap_grow_old _ _ (by simpa using hk)]
  have : g ≠ k := fun e => hne (by rw [e])
  simp [Go.Sort.putRow, Go.Sort.mapBlock, Go.Sort.ahead, Array.getElem?_modify, this]
theorem compare_ent : ∀ args w, (callFunc 119 args).run Try.prog w = .ok (.enter 119 args) w := enters_of Try.func119 (by kernel_rfl) rfl
/-- The sort of a row of the call's own. -/
theorem sortFunc {w : World} {B g cap : Nat} {cur : Array Value} (ds : List Id32) (hB : B ≤ g) (hg : w.heap[g]? = some (.cells cur 23 (0, 0))) (h1 : ds.length ≤ cap) (h2 : cap ≤ maxLen) (h3 : cur.size = cap * 32) (hc : cur.toList.take (ds.length * 32) = idCells (ds.map (·.1))) (hn : ds.length ≤ 1000000) :
    Calls Try.prog 118 #[.slice (some ⟨g, 0, none⟩) ds.length cap, .func (.func 119) #[] #[]] w fun e w' =>
      e = .returned (.tuple #[]) ∧ OwnIds 23 B w' (.slice (some ⟨g, 0, none⟩) ds.length cap) ((sorted32 ds).map (·.1)) ∧ w.grownBy w' (some g) := by
  have hcon := AnyQ.slices_SortFunc_total Try.sortId 32 (fun w => by kernel_rfl) (fun w => by kernel_rfl) enc32 enc32_length (fun x v hv => u8s_one _ _ hv) cf32 swo32 119 #[] g 0 cap ds.toArray w compare_ent
    (fun m os dk hdk x y => idCompareX x.1 y.1 x.2 y.2 _) (holds32 ds hg hc) ((Array.getElem?_eq_some_iff.1 hg).1) (by simp; omega) tot32
  rw [List.size_toArray] at hcon
  refine Calls.mono hcon ?_
  rintro e w' ⟨rfl, n, os, rfl⟩
  have hl : (sorted32 ds).length = ds.length := List.length_mergeSort _
  refine ⟨rfl, ⟨⟨?_, .inr ⟨g, cap, _, ?_, hB, sort_heap _ hg, ?_, h2, ?_, ?_⟩⟩, ?_⟩, sort_grown _⟩
  · rw [idCells_length]
    intro s hs
    obtain ⟨d, _, rfl⟩ := List.mem_map.1 hs
    exact d.2
  · rw [List.length_map, hl]
  · rw [List.length_map, hl]; exact h1
  · simp [Go.Sort.putCells, h3]
  · rw [List.length_map]
    exact take_put32 cur (sorted32 ds) (by rw [hl, h3]; omega)
  · intro s hs
    obtain ⟨d, _, rfl⟩ := List.mem_map.1 hs
    exact d.2
end Go.Proofs.Ytffgifegaagndaa
