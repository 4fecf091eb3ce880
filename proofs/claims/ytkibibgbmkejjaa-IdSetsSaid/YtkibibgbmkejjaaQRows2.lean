/- Two rows of ids of the call's own, side by side. -/
import Derived.Test.YtkibibgbmkejjaaQRowsK
import Derived.Maps.AppendAt
set_option linter.unusedSimpArgs false
set_option linter.unusedVariables false
namespace Go.Proofs.Ytkibibgbmkejjaa
open Go.RowKit
open Go.Qk hiding rotr b4
set_option maxHeartbeats 1000000
set_option maxRecDepth 100000
/-- Two slices that lie in no one block. -/
def Twain (v u : Value) : Prop := ∀ k, v.ownBlock = some k → u.ownBlock ≠ some k
theorem Twain.symm {v u : Value} (h : Twain v u) : Twain u v := fun k hk hv => h k hv hk
theorem twain_nil (u : Value) : Twain (.slice none 0 0) u := fun k hk => by simp [Value.ownBlock] at hk
theorem kept_twain {B : Nat} {w w' : World} {v u : Value} {zs : List (List UInt8)} (h : OwnIds 23 B w u zs) (hg : w.grownBy w' v.ownBlock) (hd : Twain v u) : OwnIds 23 B w' u zs := by
  refine ⟨h.1.kept hg ?_, h.2⟩
  cases hu : u.ownBlock with
  | none => exact .inl rfl
  | some k =>
    right
    intro hv
    exact hd k hv.symm hu
section
variable {ops : Array Oper} {Q : Exit → Act → World → Prop} {rest : List Oper} {o o2 : Oper} {a : Act} {w : World}
theorem op_appIds1T {l1 : List UInt8} {d : Tmp} {x y1 : Operand} {v u : Value} {ys zs : List (List UInt8)} {B : Nat} {w0 : World} (hgd : o.guard = none) (ho : o.op = .buildSlice 35 1 #[(0, y1)]) (hd : o.dst = some d)
    (hgd2 : o2.guard = none) (ho2 : o2.op = .call { callee := .builtin .append, args := #[x, .tmp d], argTypes := #[35, 35] }) (h1 : a.eval y1 = idV l1)
    (hx : ∀ u, (a.put o.dst u).eval x = v) (he : ∀ u, (a.put o.dst u).eval (.tmp d) = u) (hl1 : l1.length = 32) (hown : OwnIds 23 B w v ys) (hown2 : OwnIds 23 B w u zs) (htw : Twain v u) (hb : Below B w0 w) (hB : B ≤ w.heap.size) (hlen : ys.length + 1 ≤ 1000000000)
    (h : ∀ x v' w', OwnIds 23 B w' v' (ys ++ [l1]) → OwnIds 23 B w' u zs → Twain v' u → Below B w0 w' → wpList Try.prog ops Q rest ((a.put o.dst x).put o2.dst v') w') : wpList Try.prog ops Q (o :: o2 :: rest) a w := by
  have h32 : ∀ s ∈ [l1], s.length = 32 := fun s hs => by simp at hs; rw [hs, hl1]
  have hr := run_buildIds w [l1] 1 rfl (by omega) (by omega) h32
  have hp : #[(0, y1)].map (fun (i, y) => (i, a.eval y)) = ((([l1].map idV).zipIdx 0).map Prod.swap).toArray := by simp [h1]
  refine wpList_val (v := .slice (some ⟨w.heap.size, 0, none⟩) 1 1) (w' := w.alloc (.cells (idCells [l1]).toArray 23)) hgd ?_ ?_
  · unfold execOp
    simp only [ho, hp, Sem.run_bind, Sem.run_pure, Result.andThen_ok, hr]
  · obtain ⟨i, i1, i2, i3, i4⟩ := info_parts infoId
    refine wpList_append_own_at (P := Try.prog) _ hgd2 x (.tmp d) 35 ho2 B 23 i _ 32 32 Try.underlying35 i1 i2 i3 i4 (by simp [idV_cells, u8s_length, zero8]) (by omega) v ys.length (idCells ys) (hx _) (World.ownsRow.alloc hown.1 _) ⟨w.heap.size, 0, none⟩ 1 1 (idCells [l1]) (he _) (by rw [idCells_length _ h32]; rfl) (fun j u hj => cells_new w _ _ j u hj) (idCells_one _) (by simp only [maxLen]; omega) (by omega) (by simp; omega) ?_
    intro v' w' q1 q2 _ q4
    have hu := OwnIds.grow hown2 (grow_alloc w (.cells (idCells [l1]).toArray 23))
    have hbb := hb.alloc hB (.cells (idCells [l1]).toArray 23)
    refine h _ v' w' ⟨?_, fun s hs => ?_⟩ (kept_twain hu q2 htw) ?_ (hbb.grown q2 (by simp; omega) (fun k hk => (hown.1.lt k hk).1))
    · rw [List.length_append, idCells_append]
      exact q1
    · rcases List.mem_append.1 hs with hs | hs
      · exact hown.2 s hs
      · exact h32 s hs
    · rcases q4 with q | q
      · intro k hk
        rw [q] at hk
        exact htw k hk
      · intro k hk hu2
        rw [q] at hk
        injection hk with hk
        have := (hown2.1.lt k hu2).2
        simp at hk
        omega
end
end Go.Proofs.Ytkibibgbmkejjaa
