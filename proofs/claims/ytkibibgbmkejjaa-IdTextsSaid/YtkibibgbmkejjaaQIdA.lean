import Derived.Test.YtkibibgbmkejjaaQId9
import Derived.Lib.LazyBuf
set_option linter.unusedSimpArgs false
set_option linter.unusedVariables false
namespace Go.Proofs.Ytkibibgbmkejjaa
open Go.RowKit
open Go.Qk
set_option maxHeartbeats 1000000
set_option maxRecDepth 100000
section
variable {P : Program} {ops : Array Oper} {Q : Exit → Act → World → Prop} {rest : List Oper} {o : Oper} {a : Act} {w : World}
theorem grownBy_setCells (g : Nat) : ∀ (vs : List Value) (k : Nat) (w : World), w.grownBy (w.setCells g k vs) (some g)
  | [], _, w => grownBy_grow (Below.refl _ _) _
  | v :: r, k, w => grownBy_trans (grownBy_setCell w g k v) (grownBy_setCells g r (k + 1) _)
/-- copy(row, text): the row is as long as the text, or longer. -/
theorem copy_text (d x : Operand) (dT sT elem : TypeId) (g dLen dCap : Nat) (l : List UInt8) (cur : List Value) (t : TypeId) (hgd : o.guard = none)
    (ho : o.op = .call { callee := .builtin .copy, args := #[d, x], argTypes := #[dT, sT] }) (hu : P.underlying dT = some (.slice elem)) (hz : ∀ w, (Go.sizeOf elem).run P w = .ok 1 w)
    (hd : a.eval d = .slice (some ⟨g, 0, none⟩) dLen dCap) (hx : a.eval x = .string (bs l)) (hle : l.length ≤ dLen) (hg : w.heap[g]? = some (.cells cur.toArray t (0, 0))) (hcl : l.length ≤ cur.length)
    (h : ∀ W, (∀ j v, (u8s l)[j]? = some v → W.cell? ⟨g, j, none⟩ = some v) → w.grownBy W (some g) → (∀ B w0, Below B w0 w → B ≤ g → Below B w0 W) → wpList P ops Q rest (a.put o.dst (goInt l.length)) W) : wpList P ops Q (o :: rest) a w := by
  have hs := bs_size l
  have hc : ∀ j, j < l.length → w.cell? ⟨g, 0 + j, none⟩ = cur[j]? := fun j hj => by
    rw [Nat.zero_add, cell_of_row w g j _ t _ hg]
    simp
  have hrun := run_copy_string (P := P) w dT sT o.type elem g 0 dLen dCap (bs l) hu hz (by omega) (fun j hj => by
      rw [hc j (by omega), List.getElem?_eq_getElem (by omega)]; rfl) (fun j _ => frozen_of_row w g _ _ t hg)
  have e : ((bs l).data.toList.map fun x => Value.int .u8 (x.toNat : Int)) = u8s l := by simp [bs, u8s]
  rw [e, hs] at hrun
  refine wpList_val (v := goInt l.length) (w' := w.setCells g 0 (u8s l)) hgd ?_ ?_
  · simp [execOp, ho, resolve, invoke, builtin, hd, hx, hrun, Result.andThen]
  · refine h _ ?_ (grownBy_setCells g _ _ _) (fun B w0 hb hB => hb.trans ?_)
    · intro j v hj
      have hjl : j < (u8s l).length := (List.getElem?_eq_some_iff.1 hj).1
      have := World.cell?_setCells_in g (u8s l) 0 w (fun j hj => by
        rw [u8s_length] at hj
        rw [hc j hj, List.getElem?_eq_getElem (by omega)]; rfl) j hjl
      rw [Nat.zero_add] at this
      rw [this, ← hj, List.getElem?_eq_getElem hjl]
    · have hgr := grownBy_setCells g (u8s l) 0 w
      exact ⟨hgr.os, hgr.tape, hgr.output, hgr.size, fun k hk => hgr.block k (by have := (Array.getElem?_eq_some_iff.1 hg).1; omega) (by intro e; injection e with e; omega)⟩
end
end Go.Proofs.Ytkibibgbmkejjaa
