/- signer.Signer: Next, Key, Left, Skip, New: contracts. -/
import Derived.Test.YtabkaflccaklhaaGreatQKeyG
import Derived.Test.YtabkaflccaklhaaGreatQEager
set_option linter.unusedSimpArgs false
set_option linter.unusedVariables false
namespace Go.Proofs.YtabkaflccaklhaaGreat
open Go.RowKit
open Go.Qk hiding rotr b4
set_option maxHeartbeats 1000000
set_option maxRecDepth 100000
def sgC (b h : Int) (seed : ByteArray) (key : IdK) (next : Int) : List Value := [.int .i64 b, .int .i64 h] ++ ([.string seed] ++ (u8s key ++ [.int .i64 next]))
theorem sgC_length (b h : Int) (seed : ByteArray) (key : IdK) (next : Int) (hk : key.length = 32) : (sgC b h seed key next).length = 36 := by simp [sgC, u8s_length, hk]
theorem sgC_35 (b h : Int) (seed : ByteArray) (key : IdK) (next : Int) (hk : key.length = 32) : (sgC b h seed key next).toArray[35]? = some (.int .i64 next) := by
  unfold sgC
  rw [List.getElem?_toArray, List.getElem?_append_right (by simp), List.getElem?_append_right (by simp), List.getElem?_append_right (by simp [u8s_length, hk])]
  simp [u8s_length, hk]
theorem sgC_set (b h : Int) (seed : ByteArray) (key : IdK) (next tt : Int) (hk : key.length = 32) : (sgC b h seed key next).toArray.setIfInBounds 35 (.int .i64 tt) = (sgC b h seed key tt).toArray := by
  unfold sgC
  rw [List.setIfInBounds_toArray, List.set_append_right _ _ (by simp), List.set_append_right _ _ (by simp), List.set_append_right _ _ (by simp [u8s_length, hk])]
  simp [u8s_length, hk]
theorem opG_loadM {ops : Array Oper} {Q : Exit → Act → World → Prop} {rest : List Oper} {o : Oper} {a : Act} {w : World} {x : Operand} {g off : Nat} {T t : TypeId} {pre cs post : List Value} {fr : Nat × Nat} {d : TypeDesc} (ho : o.op = .load T x) (hw : Region.wanted o (yielded ops a.tmps) = true) (hx : a.eval x = .pointer (some ⟨g, off, none⟩)) (hg : w.heap[g]? = some (.cells (pre ++ (cs ++ post)).toArray t fr)) (hoff : pre.length = off)
    (hu : Tryz.prog.underlying T = some d) (hd : aggD d = true) (hi : (Tryz.prog.info? T).map (·.size) = some cs.length) (h : wpList Tryz.prog ops Q rest (a.put o.dst (.agg cs.toArray)) w) : wpList Tryz.prog ops Q (o :: rest) a w :=
  wpList_wantP hw (run_opLoadM ho hx hg hoff hu hd hi) h
def RetUpd (g : Nat) (P : World → Prop) (v : Value) (w : World) (e : Ending) (w' : World) : Prop := e = .returned v ∧ P w' ∧ w.grownBy w' (some g)
theorem opG_build {ops : Array Oper} {Q : Exit → Act → World → Prop} {rest : List Oper} {o : Oper} {a : Act} {w : World} {t : TypeId} {parts : Array (Nat × Operand)} {ps : Array (Nat × Value)} {v : Value} (ho : o.op = .build t parts) (hw : Region.wanted o (yielded ops a.tmps) = true) (hp : parts.map (fun (i, x) => (i, a.eval x)) = ps)
    (hr : ∀ w, (Instr.build t ps).run Tryz.prog w = .ok v w) (h : wpList Tryz.prog ops Q rest (a.put o.dst v) w) : wpList Tryz.prog ops Q (o :: rest) a w := by
  refine wpList_wantP (v := v) (w' := w) hw ?_ h
  unfold execOp
  simp only [ho, hp, Sem.run_bind, Sem.run_pure, Result.andThen_ok, hr]
end Go.Proofs.YtabkaflccaklhaaGreat
