/- signer: the chapter's example; the law SignerNew: walk. -/
import Derived.Test.YtabkaflccaklhaaQSig4
set_option linter.unusedSimpArgs false
set_option linter.unusedVariables false
namespace Go.Proofs.Ytabkaflccaklhaa
open Go.RowKit
open Go.Qk hiding rotr b4
set_option maxHeartbeats 1000000
set_option maxRecDepth 100000
theorem below_upd {B g : Nat} {w0 w w' : World} (h : Below B w0 w) (hg : w.grownBy w' (some g)) (hs : B ≤ w.heap.size) (hB : B ≤ g) : Below B w0 w' :=
  Below.grown h hg hs (fun k hk => by injection hk with hk; omega)
theorem op_allocstoreSig {ops : Array Oper} {Q : Exit → Act → World → Prop} {rest : List Oper} {o o2 : Oper} {a : Act} {w : World} {d : Tmp} {y : Operand} {cs : Array Value} (hgd : o.guard = none) (ho : o.op = .alloc 49) (hd : o.dst = some d) (hgd2 : o2.guard = none) (hdst2 : o2.dst = none) (ho2 : o2.op = .store 49 (.tmp d) y)
    (hx : ∀ g, (a.put o.dst (.pointer (some ⟨g, 0, none⟩))).eval (.tmp d) = .pointer (some ⟨g, 0, none⟩)) (hy : ∀ g, (a.put o.dst (.pointer (some ⟨g, 0, none⟩))).eval y = .agg cs) (hl : cs.size = 4) (h1 : ∀ v ∈ cs.toList, v.oneCell' = true)
    (h : ∀ g W, w.heap.size ≤ g → g < W.heap.size → Grow w W → W.heap[g]? = some (.cells cs 49 (0, 0)) → wpList Try.prog ops Q rest (a.put o.dst (.pointer (some ⟨g, 0, none⟩))) W) :
    wpList Try.prog ops Q (o :: o2 :: rest) a w := by
  refine op_allocC (z := undef) (cs := nilSig) hgd ho (fun w => by kernel_rfl) fun g W q1 q2 q3 q4 => ?_
  refine store_block 49 _ _ g 0 cs.toList nilSig.toList cs.toList 49 hgd2 hdst2 ho2 (hx g) (by simpa using hy g) (by simpa using q4) (by rw [infoSig]; simp [hl]) (by simp [nilSig, hl]) h1 (by simp [nilSig, hl]) ?_
  intro W' r1 r2 r3
  exact h g W' q1 (Nat.lt_of_lt_of_le q2 r2.size) (r3 _ _ q3 q1) (by simpa using r1)
theorem sig_one {leaf : Int} {A B C : Option Addr} {n m k c d e : Nat} : ∀ v ∈ (sigC leaf (.slice A n c) (.slice B m d) (.slice C k e)).toList, v.oneCell' = true := by
  intro v hv
  simp [sigC] at hv
  rcases hv with rfl | rfl | rfl | rfl <;> rfl
theorem RetSigned.sl {g B : Nat} {leaf : Int} {xs ys zs : List IdK} {P : World → Prop} {w w' : World} {e : Ending} (h : RetSigned g B leaf xs ys zs P w e w') :
    ∃ A1 c1 A2 c2 A3 c3, e = .returned (.tuple #[.agg (sigC leaf (.slice A1 xs.length c1) (.slice A2 ys.length c2) (.slice A3 zs.length c3)), .int .i64 0]) ∧ IdRow w' A1 xs ∧ IdRow w' A2 ys ∧ IdRow w' A3 zs ∧ P w' ∧ w.grownBy w' (some g) := by
  obtain ⟨v1, v2, v3, rfl, h1, h2, h3, h4, h5⟩ := h
  obtain ⟨⟨A1, c1, rfl, r1⟩, _⟩ := h1.sl
  obtain ⟨⟨A2, c2, rfl, r2⟩, _⟩ := h2.sl
  obtain ⟨⟨A3, c3, rfl, r3⟩, _⟩ := h3.sl
  exact ⟨_, _, _, _, _, _, rfl, r1, r2, r3, h4, h5⟩
theorem awake08 (w : World) : Calls Try.prog 23 #[] w fun e w' => e = .returned (.bool true) ∧ Below w.heap.size w w' := by
  have HNW : Hid (∀ w, Calls Try.prog 72 #[.agg #[.int .i64 8, .int .i64 1], .string ⟨#[115]⟩, .int .i64 0] w (RetSg w.heap.size 8 1 ⟨#[115]⟩ (ktOf ⟨#[115]⟩ 8 1) 0 w)) := hid (fun w => sgNew 8 1 ⟨#[115]⟩ (by decide) 0 2 (by decide) rfl (by omega) w)
  have LK := hid (ktOf_length ⟨#[115]⟩ 8 1)
  generalize ktOf ⟨#[115]⟩ 8 1 = key at *
  have HS1 := hid (fun g w (hg : IsSg w g 8 1 ⟨#[115]⟩ key 0) => sgSign g 8 1 ⟨#[115]⟩ (by decide) key 0 2 (id1 1) rfl (by decide) rfl (by omega) LK.out w hg)
  have HS2 := hid (fun g w (hg : IsSg w g 8 1 ⟨#[115]⟩ key 1) => sgSign g 8 1 ⟨#[115]⟩ (by decide) key 1 2 (id1 2) rfl (by decide) rfl (by omega) LK.out w hg)
  have HS3 := hid (fun g w (hg : IsSg w g 8 1 ⟨#[115]⟩ key 2) => sgSign_spent g 8 1 ⟨#[115]⟩ key 2 (id1 3) rfl (by decide) (by omega) LK.out w hg)
  go_enter Try.func23, Try.ntmps23
  have HB := hid (grow_refl w)
  go_wp2_with (first |  fail)
  refine (HNW.out _).mono ?_
  rintro e w1 ⟨g, rfl, hgB, hg, hb⟩
  have GB := hid (Nat.le_trans HB.out.size hgB)
  replace HB := hid (Grow.trans HB.out hb)
  clear hb
  have HG := hid hg
  clear hgB hg
  go_wp2_with (first | (refine opG_build (ps := #[(0, .int .u8 1)]) rfl rfl (by simp only [List.map_toArray, List.map_cons, List.map_nil]; rfl) run_build1 ?_))
  refine (HS1.out g _ HG.out).mono ?_
  intro e w2 hr
  obtain ⟨A1, c1, A2, c2, A3, c3, rfl, _, _, _, hg, hgb⟩ := hr.sl
  have HB2 := hid (below_upd HB.out hgb HB.out.size GB.out)
  have HG2 := hid hg
  clear hr hg hgb HB HG
  go_wp2_with (refine op_allocstoreSig rfl rfl rfl rfl rfl rfl (fun _ => rfl) (fun _ => rfl) rfl sig_one ?_)
  intro g3 w3 hgl hgu hb hz
  have HG3 := hid (grow_block HG2.out hb)
  have HB3 := hid (Grow.trans HB2.out hb)
  clear hgl hgu hb hz HB2 HG2
  go_wp2_with (first | (refine opG_build (ps := #[(0, .int .u8 2)]) rfl rfl (by simp only [List.map_toArray, List.map_cons, List.map_nil]; rfl) run_build2 ?_))
  refine (HS2.out g _ HG3.out).mono ?_
  intro e w4 hr
  obtain ⟨A4, c4, A5, c5, A6, c6, rfl, _, _, _, hg, hgb⟩ := hr.sl
  have HB4 := hid (below_upd HB3.out hgb HB3.out.size GB.out)
  have HG4 := hid hg
  clear hr hg hgb HB3 HG3
  go_wp2_with (refine op_allocstoreSig rfl rfl rfl rfl rfl rfl (fun _ => rfl) (fun _ => rfl) rfl sig_one ?_)
  intro g5 w5 hgl hgu hb hz
  have HG5 := hid (grow_block HG4.out hb)
  have HB5 := hid (Grow.trans HB4.out hb)
  clear hgl hgu hb hz HB4 HG4
  go_wp2_with (first | (refine opG_build (ps := #[(0, .int .u8 3)]) rfl rfl (by simp only [List.map_toArray, List.map_cons, List.map_nil]; rfl) run_build3 ?_))
  refine (HS3.out g _ HG5.out).mono ?_
  rintro e w6 ⟨rfl, hb⟩
  have HB6 := hid (Grow.trans HB5.out hb)
  clear hb HB5 HG5
  go_wp2_with (refine op_allocstoreSig rfl rfl rfl rfl rfl rfl (fun _ => rfl) (fun _ => rfl) rfl nilSig_one ?_)
  intro g7 w7 hgl hgu hb hz
  have HB7 := hid (Grow.trans HB6.out hb)
  clear hgl hgu hb hz HB6
  go_wp2_with fail
  go_ret
  exact ⟨rfl, HB7.out⟩
end Go.Proofs.Ytabkaflccaklhaa
