/- Rows of two texts; slices.Reverse of at most two of them: contracts. -/
import Derived.Test.YtabkaflccaklhaaQWit4
import Derived.Test.YtabkaflccaklhaaQTwo0
import Derived.Test.YtabkaflccaklhaaQFr
import Derived.Test.YtabkaflccaklhaaQFlo
import Derived.Test.YtabkaflccaklhaaQFlo2
set_option linter.unusedSimpArgs false
set_option linter.unusedVariables false
namespace Go.Proofs.Ytabkaflccaklhaa
open Go.RowKit
open Go.Qk hiding rotr b4
set_option maxHeartbeats 1000000
set_option maxRecDepth 100000
def txC (t : TxP) : List Value := [.string (bs t.1), .string (bs t.2)]
def txCells (l : List TxP) : List Value := l.flatMap txC
def OwnTx (B : Nat) (w : World) (v : Value) (l : List TxP) : Prop := w.ownsRow B 186 2 v l.length (txCells l)
theorem txCells_snoc (l : List TxP) (t : TxP) : txCells (l ++ [t]) = txCells l ++ txC t := by simp [txCells]
theorem txCells_app (l m : List TxP) : txCells (l ++ m) = txCells l ++ txCells m := by simp [txCells]
theorem txCells_length : ∀ (l : List TxP), (txCells l).length = l.length * 2
  | [] => rfl
  | t :: l => by
    have ih := txCells_length l
    show (txC t ++ txCells l).length = _
    rw [List.length_append, ih, List.length_cons]
    show 2 + _ = _
    omega
theorem txC_one (t : TxP) : ∀ u ∈ txC t, u.oneCell' = true := by
  intro u hu
  simp only [txC, List.mem_cons, List.not_mem_nil, or_false] at hu
  rcases hu with rfl | rfl <;> rfl
theorem txCells_one (l : List TxP) : ∀ u ∈ txCells l, u.oneCell' = true := by
  intro u hu
  obtain ⟨t, _, h⟩ := List.mem_flatMap.1 hu
  exact txC_one t u h
theorem infoTxZ : (Try.prog.info? 186).map (fun i => (i.zero, i.size, i.bytes)) = some (some (.agg #[.string ByteArray.empty, .string ByteArray.empty]), 2, 32) := by kernel_rfl
theorem infoTx (t : TxP) : (Try.prog.info? 186).map (·.size) = some (txC t).length := by kernel_rfl
theorem txCells_get : ∀ (l : List TxP) (i j : Nat) (v : Value) (d : TxP), i < l.length → (txC (l.getD i d))[j]? = some v → (txCells l)[i * 2 + j]? = some v
  | [], i, j, v, d, h, _ => by simp at h
  | x :: t, 0, j, v, d, h, hv => by
    have hj : j < 2 := (List.getElem?_eq_some_iff.1 hv).1
    have e : txCells (x :: t) = txC x ++ txCells t := rfl
    rw [e, List.getElem?_append_left (by show 0 * 2 + j < 2; omega), Nat.zero_mul, Nat.zero_add]
    exact hv
  | x :: t, i + 1, j, v, d, h, hv => by
    have e : txCells (x :: t) = txC x ++ txCells t := rfl
    have ih := txCells_get t i j v d (by simpa using h) (by simpa using hv)
    rw [e, List.getElem?_append_right (by show 2 ≤ (i + 1) * 2 + j; omega)]
    have e2 : (i + 1) * 2 + j - (txC x).length = i * 2 + j := by show (i + 1) * 2 + j - 2 = _; omega
    rw [e2]
    exact ih
theorem run_opLoadAgg {P : Program} {o : Oper} {a : Act} {w : World} {x : Operand} {ad : Addr} {cs : List Value} {T : TypeId} {d : TypeDesc} (ho : o.op = .load T x) (hx : a.eval x = .pointer (some ad)) (hc : ∀ j v, cs[j]? = some v → w.cell? (ad.add j) = some v) (hu : P.underlying T = some d) (hd : aggD d = true) (hi : (P.info? T).map (·.size) = some cs.length) :
    (execOp a.eval o).run P w = .ok (.value (.agg cs.toArray)) w := by
  unfold execOp
  cases d with
  | struct _ => simp only [ho, hx, Sem.run_bind, Sem.run_pure, Result.andThen_ok, run_loadAt_agg (P := P) w ad T cs _ hc hu rfl hi]
  | array _ _ => simp only [ho, hx, Sem.run_bind, Sem.run_pure, Result.andThen_ok, run_loadAt_agg (P := P) w ad T cs _ hc hu rfl hi]
  | _ => cases hd
theorem revTx (l : List TxP) (hl : l.length ≤ 2) (v : Value) (B : Nat) (w : World) (ho : OwnTx B w v l) (hB : B ≤ w.heap.size) :
    Calls Try.prog 171 #[v] w fun e w' => e = .returned (.tuple #[]) ∧ OwnTx B w' v l.reverse ∧ Fr (fun k => v.ownBlock = some k) w w' := by
  by_cases h2 : l.length = 2
  · match l, h2 with
    | [t, u], _ =>
      rcases ho with ⟨h0, ⟨_, h1⟩ | ⟨g, cap, cur, rfl, hb, hg, hc, hm, hsz, htk⟩⟩
      · simp at h1
      · have hcl : cur.toList.take 4 = [Value.string (bs t.1), .string (bs t.2), .string (bs u.1), .string (bs u.2)] := by
          have : cur.toList.take 4 = txCells [t, u] := htk
          rw [this]; rfl
        obtain ⟨tl, htl⟩ : ∃ tl, cur.toList = [Value.string (bs t.1), .string (bs t.2), .string (bs u.1), .string (bs u.2)] ++ tl := ⟨cur.toList.drop 4, by rw [← hcl, List.take_append_drop]⟩
        obtain rfl : cur = ([Value.string (bs t.1), .string (bs t.2), .string (bs u.1), .string (bs u.2)] ++ tl).toArray := by rw [← htl]
        have HG := hid hg
        have c0 : ∀ W, Grow w W → ∀ j v, (txC t)[j]? = some v → W.cell? ((⟨g, 0, none⟩ : Addr).add j) = some v := fun W hW j v hv => by
          have hj : j < 2 := (List.getElem?_eq_some_iff.1 hv).1
          have hw := grow_block HG.out hW
          match j, hj, hv with
          | 0, _, hv => simp [txC] at hv; subst hv; exact blk_cell hw rfl
          | 1, _, hv => simp [txC] at hv; subst hv; exact blk_cell hw rfl
        have c1 : ∀ W, Grow w W → ∀ j v, (txC u)[j]? = some v → W.cell? ((⟨g, 2, none⟩ : Addr).add j) = some v := fun W hW j v hv => by
          have hj : j < 2 := (List.getElem?_eq_some_iff.1 hv).1
          have hw := grow_block HG.out hW
          match j, hj, hv with
          | 0, _, hv => simp [txC] at hv; subst hv; exact blk_cell hw rfl
          | 1, _, hv => simp [txC] at hv; subst hv; exact blk_cell hw rfl
        have C0 := hid c0
        have C1 := hid c1
        have HM := hid (And.intro hb (And.intro hc (And.intro hm hsz)))
        clear hb hg hc hm hsz htk hcl htl c0 c1 hl h0
        go_enter Try.func171, Try.ntmps171
        have HB := hid (grow_refl w)
        go_wp2_with fail
        go_loopg [2, 3] 2 (fun z i j wr => (z = 2 ∧ i = .int .i64 0 ∧ j = .int .i64 1 ∧ Hid (wr = w)) ∨ (z = 1 ∧ i = .int .i64 1 ∧ j = .int .i64 0 ∧ Hid (wr.heap[g]? = some (.cells ([Value.string (bs u.1), .string (bs u.2), .string (bs t.1), .string (bs t.2)] ++ tl).toArray 186 (0, 0))) ∧ Hid (w.grownBy wr (some g))))
        case atStart => exact .inl ⟨rfl, rfl, rfl, rfl⟩
        case round =>
          rcases hrel with ⟨rfl, rfl, rfl, hw⟩ | ⟨rfl, rfl, rfl, HZ, HW⟩
          · obtain rfl := hw.out
            go_wp2_with fail
            refine wp_region_floatQ (fun W => Grow wr W) [2, 3] [0, 1, 4, 5, 6, 7, 8, 9, 10, 11, 12] [] [13, 14, 15] rfl (by kernel_rfl) rfl (by kernel_rfl) (by kernel_rfl) ?_
            intro wf1 hb
            replace HB := hid (Grow.trans HB.out hb)
            clear hb
            refine ⟨HB.out, ?_⟩
            iterate 2 (refine pickQ_val rfl rfl (fun w' => by go_simp; with_reducible rfl) (fun _ _ _ h => h) ?_; try simp only [List.getElem_toArray, List.getElem_cons_zero, List.getElem_cons_succ, Act.put, List.setIfInBounds_toArray, List.set_cons_zero, List.set_cons_succ])
            refine pickQ_nil ?_
            (refine' pickT_val ?po1 ?pw1 ?pr1 ?pq1 ?ph1; (case' po1 => exact rfl); (case' pw1 => rfl); (case' pq1 => (exact fun _ _ _ h => h)); (case' pr1 => (intro w' hw'; go_simp; with_reducible rfl)); (case' ph1 => (try simp only [List.getElem_toArray, List.getElem_cons_zero, List.getElem_cons_succ, Act.put, List.setIfInBounds_toArray, List.set_cons_zero, List.set_cons_succ]))); (refine' pickT_val ?po2 ?pw2 ?pr2 ?pq2 ?ph2; (case' po2 => exact rfl); (case' pw2 => rfl); (case' pq2 => (exact fun _ _ _ h => h)); (case' pr2 => (intro w' hw'; go_simp; with_reducible rfl)); (case' ph2 => (try simp only [List.getElem_toArray, List.getElem_cons_zero, List.getElem_cons_succ, Act.put, List.setIfInBounds_toArray, List.set_cons_zero, List.set_cons_succ]))); (refine' pickT_val ?po3 ?pw3 ?pr3 ?pq3 ?ph3; (case' po3 => exact rfl); (case' pw3 => rfl); (case' pq3 => (exact fun _ _ _ h => h)); (case' pr3 => (intro w' hw'; go_simp; with_reducible rfl)); (case' ph3 => (try simp only [List.getElem_toArray, List.getElem_cons_zero, List.getElem_cons_succ, Act.put, List.setIfInBounds_toArray, List.set_cons_zero, List.set_cons_succ]))); (refine' pickT_val ?po4 ?pw4 ?pr4 ?pq4 ?ph4; (case' po4 => exact rfl); (case' pw4 => rfl); (case' pq4 => (exact fun _ _ _ h => h)); (case' pr4 => (intro w' hw'; go_simp; with_reducible rfl)); (case' ph4 => (try simp only [List.getElem_toArray, List.getElem_cons_zero, List.getElem_cons_succ, Act.put, List.setIfInBounds_toArray, List.set_cons_zero, List.set_cons_succ]))); (refine' pickT_val ?po5 ?pw5 ?pr5 ?pq5 ?ph5; (case' po5 => exact rfl); (case' pw5 => rfl); (case' pq5 => (exact fun _ _ _ h => h)); (case' pr5 => (intro w' hw'; go_simp; with_reducible rfl)); (case' ph5 => (try simp only [List.getElem_toArray, List.getElem_cons_zero, List.getElem_cons_succ, Act.put, List.setIfInBounds_toArray, List.set_cons_zero, List.set_cons_succ])))
            (refine' pickT_val (v := .agg (txC u).toArray) ?po6 ?pw6 ?pr6 ?pq6 ?ph6; (case' po6 => exact rfl); (case' pw6 => rfl); (case' pq6 => (exact fun _ _ _ h => h)); (case' pr6 => (intro w' hw'; exact run_opLoadAgg (cs := txC u) rfl rfl (C1.out _ hw') Try.underlying186 rfl (infoTx u))); (case' ph6 => (try simp only [List.getElem_toArray, List.getElem_cons_zero, List.getElem_cons_succ, Act.put, List.setIfInBounds_toArray, List.set_cons_zero, List.set_cons_succ])))
            (refine' pickT_val ?po7 ?pw7 ?pr7 ?pq7 ?ph7; (case' po7 => exact rfl); (case' pw7 => rfl); (case' pq7 => (exact fun _ _ _ h => h)); (case' pr7 => (intro w' hw'; go_simp; with_reducible rfl)); (case' ph7 => (try simp only [List.getElem_toArray, List.getElem_cons_zero, List.getElem_cons_succ, Act.put, List.setIfInBounds_toArray, List.set_cons_zero, List.set_cons_succ]))); (refine' pickT_val ?po8 ?pw8 ?pr8 ?pq8 ?ph8; (case' po8 => exact rfl); (case' pw8 => rfl); (case' pq8 => (exact fun _ _ _ h => h)); (case' pr8 => (intro w' hw'; go_simp; with_reducible rfl)); (case' ph8 => (try simp only [List.getElem_toArray, List.getElem_cons_zero, List.getElem_cons_succ, Act.put, List.setIfInBounds_toArray, List.set_cons_zero, List.set_cons_succ]))); (refine' pickT_val ?po9 ?pw9 ?pr9 ?pq9 ?ph9; (case' po9 => exact rfl); (case' pw9 => rfl); (case' pq9 => (exact fun _ _ _ h => h)); (case' pr9 => (intro w' hw'; go_simp; with_reducible rfl)); (case' ph9 => (try simp only [List.getElem_toArray, List.getElem_cons_zero, List.getElem_cons_succ, Act.put, List.setIfInBounds_toArray, List.set_cons_zero, List.set_cons_succ])))
            (refine' pickT_val (v := .agg (txC t).toArray) ?po10 ?pw10 ?pr10 ?pq10 ?ph10; (case' po10 => exact rfl); (case' pw10 => rfl); (case' pq10 => (exact fun _ _ _ h => h)); (case' pr10 => (intro w' hw'; exact run_opLoadAgg (cs := txC t) rfl rfl (C0.out _ hw') Try.underlying186 rfl (infoTx t))); (case' ph10 => (try simp only [List.getElem_toArray, List.getElem_cons_zero, List.getElem_cons_succ, Act.put, List.setIfInBounds_toArray, List.set_cons_zero, List.set_cons_succ])))
            (refine' pickT_val ?po11 ?pw11 ?pr11 ?pq11 ?ph11; (case' po11 => exact rfl); (case' pw11 => rfl); (case' pq11 => (exact fun _ _ _ h => h)); (case' pr11 => (intro w' hw'; go_simp; with_reducible rfl)); (case' ph11 => (try simp only [List.getElem_toArray, List.getElem_cons_zero, List.getElem_cons_succ, Act.put, List.setIfInBounds_toArray, List.set_cons_zero, List.set_cons_succ])))
            refine pickT_nil ?_
            refine seqT_nil ?_
            show wpList _ _ _ (_ :: _ :: _ :: []) _ _
            have HG1 := hid (grow_block HG.out HB.out)
            go_wp2_with (first | (refine store_block 186 _ _ g 0 (txC u) ([Value.string (bs t.1), .string (bs t.2), .string (bs u.1), .string (bs u.2)] ++ tl) ([Value.string (bs u.1), .string (bs u.2), .string (bs u.1), .string (bs u.2)] ++ tl) 186 rfl rfl rfl rfl rfl HG1.out (infoTx u) (by simp [txC]) (txC_one u) (by simp [txC]) ?_) | fail)
            intro w2 hz2 hg2 _
            have HZ2 := hid hz2
            clear hz2 HG1
            go_wp2_with (first | (refine store_block 186 _ _ g 2 (txC t) ([Value.string (bs u.1), .string (bs u.2), .string (bs u.1), .string (bs u.2)] ++ tl) ([Value.string (bs u.1), .string (bs u.2), .string (bs t.1), .string (bs t.2)] ++ tl) 186 rfl rfl rfl rfl rfl HZ2.out (infoTx t) (by simp [txC]) (txC_one t) (by simp [txC]) ?_) | fail)
            intro w3 hz3 hg3 _
            have HZ3 := hid hz3
            have HF := hid (grownBy_trans (grownBy_trans (grownBy_grow HB.out (some g)) hg2) hg3)
            clear hz3 hg2 hg3 HZ2
            go_wp2_with fail
            go_roundg 1
            case rel => exact .inr ⟨rfl, rfl, rfl, HZ3, HF⟩
            case measure => omega
          · go_wp2_with fail
            go_end0
            obtain ⟨q1, q2, q3, q4⟩ := HM.out
            exact ⟨rfl, ⟨rfl, .inr ⟨g, cap, _, rfl, q1, HZ.out, q2, q3, by simpa using q4, by simp [txCells, txC]⟩⟩, fr_grown HW.out (fun k hk => .inl (by injection hk with hk; subst hk; rfl))⟩
  · obtain ⟨A, c, rfl, _⟩ := own_sl ho
    have hr : l.reverse = l := by
      match l, hl, h2 with
      | [], _, _ => rfl
      | [_], _, _ => rfl
      | [_, _], _, h2 => exact absurd rfl h2
    have HO := hid (show w.ownsRow B 186 2 (.slice A l.length c) l.length (txCells l) from ho)
    have HR := hid hr
    obtain ⟨n, hn⟩ : ∃ n, n = l.length := ⟨_, rfl⟩
    have HN := hid hn
    have n1 : (n : Int) ≤ 1 := by omega
    have n0 : (0 : Int) ≤ (n : Int) := by omega
    have t1 : decide ((0 : Int) < (n : Int) - 1) = false := by simp; omega
    rw [hr]
    rw [← hn] at HO ⊢
    clear ho hr hl h2 hn
    go_enter Try.func171, Try.ntmps171
    have HB := hid (grow_refl w)
    go_wp2_with fail
    go_loopg [2, 3] 1 (fun z i j wr => z = 1 ∧ i = .int .i64 0 ∧ j = .int .i64 ((n : Int) - 1) ∧ Hid (wr = w))
    case atStart => exact ⟨rfl, rfl, by go_num, rfl⟩
    case round =>
      obtain ⟨rfl, rfl, rfl, hw⟩ := hrel
      obtain rfl := hw.out
      go_wp2_with fail
      go_end0
      exact ⟨rfl, by unfold OwnTx; rw [← HN.out]; exact HO.out, Fr.refl _ _⟩
end Go.Proofs.Ytabkaflccaklhaa
