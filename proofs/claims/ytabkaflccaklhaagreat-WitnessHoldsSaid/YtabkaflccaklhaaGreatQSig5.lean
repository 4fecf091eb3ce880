/- signer: the chapter's example; the law SignerNew: walk. -/
import Derived.Test.YtabkaflccaklhaaGreatQSig4
set_option linter.unusedSimpArgs false
set_option linter.unusedVariables false
namespace Go.Proofs.YtabkaflccaklhaaGreat
open Go.RowKit
open Go.Qk hiding rotr b4
set_option maxHeartbeats 1000000
set_option maxRecDepth 100000
theorem below_upd {B g : Nat} {w0 w w' : World} (h : Below B w0 w) (hg : w.grownBy w' (some g)) (hs : B ≤ w.heap.size) (hB : B ≤ g) : Below B w0 w' :=
  Below.grown h hg hs (fun k hk => by injection hk with hk; omega)
theorem op_allocstoreSig {ops : Array Oper} {Q : Exit → Act → World → Prop} {rest : List Oper} {o o2 : Oper} {a : Act} {w : World} {d : Tmp} {y : Operand} {cs : Array Value} (hgd : o.guard = none) (ho : o.op = .alloc 58) (hd : o.dst = some d) (hgd2 : o2.guard = none) (hdst2 : o2.dst = none) (ho2 : o2.op = .store 58 (.tmp d) y)
    (hx : ∀ g, (a.put o.dst (.pointer (some ⟨g, 0, none⟩))).eval (.tmp d) = .pointer (some ⟨g, 0, none⟩)) (hy : ∀ g, (a.put o.dst (.pointer (some ⟨g, 0, none⟩))).eval y = .agg cs) (hl : cs.size = 4) (h1 : ∀ v ∈ cs.toList, v.oneCell' = true)
    (h : ∀ g W, w.heap.size ≤ g → g < W.heap.size → Grow w W → W.heap[g]? = some (.cells cs 58 (0, 0)) → wpList Tryz.prog ops Q rest (a.put o.dst (.pointer (some ⟨g, 0, none⟩))) W) :
    wpList Tryz.prog ops Q (o :: o2 :: rest) a w := by
  refine op_allocC (z := undef) (cs := nilSig) hgd ho (fun w => by kernel_rfl) fun g W q1 q2 q3 q4 => ?_
  refine store_block 58 _ _ g 0 cs.toList nilSig.toList cs.toList 58 hgd2 hdst2 ho2 (hx g) (by simpa using hy g) (by simpa using q4) (by rw [infoSig]; simp [hl]) (by simp [nilSig, hl]) h1 (by simp [nilSig, hl]) ?_
  intro W' r1 r2 r3
  exact h g W' q1 (Nat.lt_of_lt_of_le q2 r2.size) (r3 _ _ q3 q1) (by simpa using r1)
theorem sig_one {leaf : Int} {A B C : Option Addr} {n m k c d e : Nat} : ∀ v ∈ (sigC leaf (.slice A n c) (.slice B m d) (.slice C k e)).toList, v.oneCell' = true := by
  intro v hv
  simp [sigC] at hv
  rcases hv with rfl | rfl | rfl | rfl <;> rfl
theorem RetSigned.sl {g B : Nat} {leaf : Int} {xs ys zs : List IdK} {P : World → Prop} {w w' : World} {e : Ending} (h : RetSigned g B leaf xs ys zs P w e w') :
    ∃ A1 c1 A2 c2 A3 c3, e = .returned (.tuple #[.agg (sigC leaf (.slice A1 xs.length c1) (.slice A2 ys.length c2) (.slice A3 zs.length c3)), .int .i64 0]) ∧ IdRow w' A1 xs ∧ IdRow w' A2 ys ∧ IdRow w' A3 zs ∧ P w' ∧ w.grownBy w' (some g) := by
  obtain ⟨v1, v2, v3, rfl, h1, h2, h3, h4, h5⟩ := h
  obtain ⟨⟨A1, c1, rfl, r1⟩, _⟩ := h1.sl
  obtain ⟨⟨A2, c2, rfl, r2⟩, _⟩ := h2.sl
  obtain ⟨⟨A3, c3, rfl, r3⟩, _⟩ := h3.sl
  exact ⟨_, _, _, _, _, _, rfl, r1, r2, r3, h4, h5⟩
end Go.Proofs.YtabkaflccaklhaaGreat
