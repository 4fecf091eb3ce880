import Derived.Test.YtkibibgbmkejjaaQShaH
import Derived.ChangeKeysEq
set_option linter.unusedSimpArgs false
set_option linter.unusedVariables false
namespace Go.Proofs.Ytkibibgbmkejjaa
open Go.RowKit Go.Qk
section
variable {P : Program}
theorem part_u8 (e : TypeId) (l : List UInt8) (k : Nat) (hk : k < l.length) (w : World) {d : TypeDesc} (he : P.underlying e = some d) (hd : (match d with | .struct _ | .array _ _ => true | _ => false) = false) :
    (part e (u8s l).toArray (k * 1)).run P w = .ok (.int .u8 (b8 l k)) w := by
  have hagg : (isAgg e).run P w = .ok false w := by
    unfold isAgg
    rw [Sem.run_bind, run_underlying he w]
    cases d <;> simp_all
  simp [part, Sem.run_bind, hagg, u8s_get l k hk]
theorem run_eqItems_u8 (d : Nat) (e : TypeId) (l m : List UInt8) (hl : l.length = m.length) (he : P.underlying e = some (.int .u8)) (w : World) : ∀ (n k : Nat), k + n = l.length →
    (Op.eqItems (d + 1) e 1 (u8s l).toArray (u8s m).toArray (List.range' k n)).run P w = .ok (l.drop k == m.drop k) w
  | 0, k, h => by
    rw [List.drop_of_length_le (by omega), List.drop_of_length_le (by omega)]
    simp [Op.eqItems]
  | n + 1, k, h => by
    have h1 : k < l.length := by omega
    have h2 : k < m.length := by omega
    rw [List.range'_succ]
    have hb : (b8 l k == b8 m k) = (l[k] == m[k]) := by
      rw [Bool.eq_iff_iff]
      simp [b8_eq, h1, h2]
    have ih := run_eqItems_u8 d e l m hl he w n (k + 1) (by omega)
    simp only [Op.eqItems, Sem.run_bind, part_u8 e l k h1 w he rfl, part_u8 e m k h2 w he rfl, Result.andThen_ok, run_equalIn_int w d e .u8 .u8 _ _ he, hb]
    rw [List.drop_eq_getElem_cons h1, List.drop_eq_getElem_cons h2, List.cons_beq_cons]
    cases l[k] == m[k] with
    | true => simpa using ih
    | false => simp
end
theorem id_equalIn (l m : List UInt8) (hl : l.length = 32) (hm : m.length = 32) (w : World) :
    (Op.equalIn 10000 23 (idV l) (idV m)).run Try.prog w = .ok (l == m) w := by
  obtain ⟨i, hi, h1, h2, h3⟩ := info_u8 infoU8
  have hc : Try.prog.cellsOf 5 = 1 := by kernel_rfl
  have := run_equalIn_array w 9999 (u8s l).toArray (u8s m).toArray Try.underlying23 hi
  rw [hc, List.range_eq_range', run_eqItems_u8 9998 5 l m (by omega) Try.underlying5 w 32 0 (by omega)] at this
  exact this
theorem id_eql (l m : List UInt8) (hl : l.length = 32) (hm : m.length = 32) (w : World) :
    (Go.binOp .eql 23 (idV l) (idV m)).run Try.prog w = .ok (.bool (l == m)) w := by
  unfold idV
  rw [run_eql_struct]
  have := id_equalIn l m hl hm w
  unfold idV at this
  rw [this]
  rfl
theorem id_neq (l m : List UInt8) (hl : l.length = 32) (hm : m.length = 32) (w : World) :
    (Go.binOp .neq 23 (idV l) (idV m)).run Try.prog w = .ok (.bool (!(l == m))) w := by
  unfold idV
  rw [run_neq_struct]
  have := id_equalIn l m hl hm w
  unfold idV at this
  rw [this]
  rfl
theorem id_eql_self (F : List UInt8) (hF : F.length = 32) (w : World) : (Go.binOp .eql 23 (idV F) (idV F)).run Try.prog w = .ok (.bool true) w := by
  have := id_eql F F hF hF w
  rw [beq_self_eq_true] at this
  exact this
theorem id_guard (op : BinOp) (F G : List UInt8) (x y : Operand) (w : World) : (Go.eqGuard op 23 x y (idV F) (idV G)).run Try.prog w = .ok () w :=
  run_eqGuard_agg w op 23 x y _ _ (by kernel_rfl)
theorem sha_empty : shaOf [] = [227, 176, 196, 66, 152, 252, 28, 20, 154, 251, 244, 200, 153, 111, 185, 36, 39, 174, 65, 228, 100, 155, 147, 76, 164, 149, 153, 27, 120, 82, 184, 85] := by decide +kernel
theorem sha_abc : shaOf [97, 98, 99] = [186, 120, 22, 191, 143, 1, 207, 234, 65, 65, 64, 222, 93, 174, 34, 35, 176, 3, 97, 163, 150, 23, 122, 156, 180, 16, 255, 97, 242, 0, 21, 173] := by decide +kernel
end Go.Proofs.Ytkibibgbmkejjaa
