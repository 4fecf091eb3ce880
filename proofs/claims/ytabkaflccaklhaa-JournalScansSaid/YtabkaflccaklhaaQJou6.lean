/- journal.Scan: contract. -/
import Derived.Test.YtabkaflccaklhaaQJou5
set_option linter.unusedSimpArgs false
set_option linter.unusedVariables false
namespace Go.Proofs.Ytabkaflccaklhaa
open Go.RowKit
open Go.Qk hiding rotr b4
open Pac
set_option maxHeartbeats 8000000
set_option maxRecDepth 100000
def frCells (l : List (UInt8 × List UInt8)) : List Value := (l.map fun x => [Value.int .i64 (x.1.toNat : Int), Value.string (bs x.2)]).flatten
theorem own_blk_t {w : World} {B : Nat} {e : TypeId} {sz n : Nat} {v : Value} {xs : List Value} (h : w.ownsRow B e sz v n xs) {k : Nat} (hk : v.ownBlock = some k) : ∃ cs fr, w.heap[k]? = some (.cells cs e fr) := by
  rcases h.2 with ⟨rfl, _⟩ | ⟨g, cap, cur, rfl, _, h2, _⟩
  · simp [Value.ownBlock] at hk
  · simp only [Value.ownBlock, Option.some.injEq] at hk
    subst hk
    exact ⟨_, _, h2⟩
theorem frCells_snoc (l : List (UInt8 × List UInt8)) (k : UInt8) (p : List UInt8) : frCells (l ++ [(k, p)]) = frCells l ++ [Value.int .i64 (k.toNat : Int), Value.string (bs p)] := by simp [frCells]
structure ScS (w : World) (B g4 g6 g7 : Nat) (ov : Value) (l : List (UInt8 × List UInt8)) (c : List UInt8) : Prop where
  own : w.ownsRow B 101 2 ov l.length (frCells l)
  ch : w.heap[g4]? = some (.cells (u8s c).toArray 25 (0, 0))
  fr : ∃ x y, w.heap[g6]? = some (.cells #[x, y] 101 (0, 0))
  nx : ∃ d : List UInt8, d.length = 32 ∧ w.heap[g7]? = some (.cells (u8s d).toArray 25 (0, 0))
  l4 : B ≤ g4
  l6 : B ≤ g6
  l7 : B ≤ g7
  n47 : g4 ≠ g7
  n6 : ∀ k, ov.ownBlock = some k → k ≠ g6
def scanR (S : List UInt8) : List (UInt8 × List UInt8) × Nat × List UInt8 := scanF S.length S beginL
/-- How far the scan has come. -/
def ScanAt (S : List UInt8) (l : List (UInt8 × List UInt8)) (e : Nat) (c : List UInt8) : Prop := e ≤ S.length ∧ c.length = 32 ∧ ∃ n, S.length - e ≤ n ∧ scanR S = (l ++ (scanF n (S.drop e) c).1, e + (scanF n (S.drop e) c).2.1, (scanF n (S.drop e) c).2.2)
theorem scanAt_none {S : List UInt8} {l : List (UInt8 × List UInt8)} {e : Nat} {c : List UInt8} (h : ScanAt S l e c) (h1 : oneF (S.drop e) c = none) : scanR S = (l, e, c) := by
  obtain ⟨_, _, n, _, h2⟩ := h
  have : scanF n (S.drop e) c = ([], 0, c) := by
    cases n with
    | zero => rfl
    | succ n => unfold scanF; rw [h1]
  rw [h2, this]
  simp
theorem scanAt_some {S p : List UInt8} {l : List (UInt8 × List UInt8)} {e m : Nat} {c : List UInt8} {k : UInt8} (h : ScanAt S l e c) (h1 : oneF (S.drop e) c = some (k, p, m)) : ScanAt S (l ++ [(k, p)]) (e + m) (nextL c k p) ∧ 2 ≤ m := by
  obtain ⟨h0, hc, n, hn, h2⟩ := h
  obtain ⟨q1, q2, q3, q4, q5⟩ := oneF_some h1
  have hm := frameB_pos c p k
  simp only [List.length_drop] at q3
  refine ⟨⟨by omega, nextL_length _ _ _, n - 1, by omega, ?_⟩, by omega⟩
  obtain ⟨n', rfl⟩ : ∃ n', n = n' + 1 := ⟨n - 1, by omega⟩
  rw [h2]
  have : scanF (n' + 1) (S.drop e) c = ((k, p) :: (scanF n' ((S.drop e).drop m) (nextL c k p)).1, m + (scanF n' ((S.drop e).drop m) (nextL c k p)).2.1, (scanF n' ((S.drop e).drop m) (nextL c k p)).2.2) := by
    rw [scanF, h1]
  rw [this, List.drop_drop]
  simp only [Nat.add_sub_cancel, List.append_assoc, List.singleton_append, Nat.add_assoc]
theorem two_new (w : World) (o1 o2 : Obj) : ((w.alloc o1).alloc o2).heap[w.heap.size]? = some o1 ∧ ((w.alloc o1).alloc o2).heap[w.heap.size + 1]? = some o2 ∧ Grow w ((w.alloc o1).alloc o2) := by
  have h1 := heap_alloc_new w o1
  have s1 : (w.alloc o1).heap.size = w.heap.size + 1 := by simp
  have h2 := heap_alloc_new (w.alloc o1) o2
  rw [s1] at h2
  exact ⟨grow_block h1 (grow_alloc _ _), h2, (grow_alloc _ _).trans (grow_alloc _ _)⟩
theorem ScS.fr' {w w' : World} {D : Nat → Prop} {B g4 g6 g7 : Nat} {ov : Value} {l : List (UInt8 × List UInt8)} {c : List UInt8} (h : ScS w B g4 g6 g7 ov l c) (hf : Fr D w w') (hd : ∀ k cs t fr, w.heap[k]? = some (.cells cs t fr) → t = 101 ∨ t = 25 → ¬ D k) : ScS w' B g4 g6 g7 ov l c := by
  obtain ⟨x, y, h6⟩ := h.fr
  obtain ⟨d, hd32, h7⟩ := h.nx
  exact ⟨hf.own h.own (fun k hk => by obtain ⟨cs, fr, e⟩ := own_blk_t h.own hk; exact hd k cs _ fr e (.inl rfl)), hf.blk h.ch (hd _ _ _ _ h.ch (.inr rfl)), ⟨x, y, hf.blk h6 (hd _ _ _ _ h6 (.inl rfl))⟩, ⟨d, hd32, hf.blk h7 (hd _ _ _ _ h7 (.inr rfl))⟩, h.l4, h.l6, h.l7, h.n47, h.n6⟩
theorem ScS.grow {w w' : World} {B g4 g6 g7 : Nat} {ov : Value} {l : List (UInt8 × List UInt8)} {c : List UInt8} (h : ScS w B g4 g6 g7 ov l c) (hg : Grow w w') : ScS w' B g4 g6 g7 ov l c := h.fr' (D := fun _ => False) (fr_grow hg) (fun _ _ _ _ _ _ h => h)
theorem ScS.frR {w w' : World} {B g4 g6 g7 g : Nat} {ov : Value} {l : List (UInt8 × List UInt8)} {c L : List UInt8} {p : Nat} {e : Int} (h : ScS w B g4 g6 g7 ov l c) (hf : Fr (fun k => k = g) w w') (hg : w.heap[g]? = some (rdOb L p e)) : ScS w' B g4 g6 g7 ov l c :=
  h.fr' hf (fun k cs t fr hk ht hD => by
    subst hD
    rcases ht with rfl | rfl
    · exact blk_ne hk hg (by decide) rfl
    · exact blk_ne hk hg (by decide) rfl)
theorem ScS.put6 {w w' : World} {B g4 g6 g7 : Nat} {ov x y x' y' : Value} {l : List (UInt8 × List UInt8)} {c : List UInt8} (h : ScS w B g4 g6 g7 ov l c) (h6 : w.heap[g6]? = some (.cells #[x, y] 101 (0, 0))) (hg : w.grownBy w' (some g6)) (hW : w'.heap[g6]? = some (.cells #[x', y'] 101 (0, 0))) : ScS w' B g4 g6 g7 ov l c := by
  have hf : Fr (fun k => k = g6) w w' := fr_grown hg (fun k hk => .inl (Option.some.inj hk).symm)
  obtain ⟨d, hd32, h7⟩ := h.nx
  exact ⟨hf.own h.own (fun k hk => h.n6 k hk), hf.blk h.ch (fun e => blk_ne h.ch h6 (by decide) e), ⟨x', y', hW⟩, ⟨d, hd32, hf.blk h7 (fun e => blk_ne h7 h6 (by decide) e)⟩, h.l4, h.l6, h.l7, h.n47, h.n6⟩
theorem ScS.put7 {w w' : World} {B g4 g6 g7 : Nat} {ov : Value} {l : List (UInt8 × List UInt8)} {c d d' : List UInt8} (h : ScS w B g4 g6 g7 ov l c) (h7 : w.heap[g7]? = some (.cells (u8s d).toArray 25 (0, 0))) (hg : w.grownBy w' (some g7)) (hW : w'.heap[g7]? = some (.cells (u8s d').toArray 25 (0, 0))) (hd : d'.length = 32) : ScS w' B g4 g6 g7 ov l c := by
  have hf : Fr (fun k => k = g7) w w' := fr_grown hg (fun k hk => .inl (Option.some.inj hk).symm)
  obtain ⟨x, y, h6⟩ := h.fr
  exact ⟨hf.own h.own (fun k hk e => own_ne_blk h.own h7 (by decide) (by rw [hk, e])), hf.blk h.ch (fun e => h.n47 e), ⟨x, y, hf.blk h6 (fun e => blk_ne h6 h7 (by decide) e)⟩, ⟨d', hd, hW⟩, h.l4, h.l6, h.l7, h.n47, h.n6⟩
theorem bs_inj {a b : List UInt8} (h : bs a = bs b) : a = b := by rw [← bl_bs a, ← bl_bs b, h]
theorem ScS.app {w w' : World} {B g4 g6 g7 : Nat} {ov ov' : Value} {l : List (UInt8 × List UInt8)} {c x : List UInt8} {k : UInt8} (h : ScS w B g4 g6 g7 ov l c) (ho : w'.ownsRow B 101 2 ov' (l.length + 1) (frCells l ++ [Value.int .i64 (k.toNat : Int), Value.string (bs x)])) (hg : w.grownBy w' ov.ownBlock) (hm : Moved w ov ov') : ScS w' B g4 g6 g7 ov' (l ++ [(k, x)]) c := by
  have hf : Fr (fun k => ov.ownBlock = some k) w w' := fr_grown hg (fun k hk => .inl hk)
  obtain ⟨x6, y6, h6⟩ := h.fr
  obtain ⟨d, hd32, h7⟩ := h.nx
  exact ⟨by rw [frCells_snoc, List.length_append]; exact ho, hf.blk h.ch (fun e => own_ne_blk h.own h.ch (by decide) e), ⟨x6, y6, hf.blk h6 (fun e => h.n6 _ e rfl)⟩, ⟨d, hd32, hf.blk h7 (fun e => own_ne_blk h.own h7 (by decide) e)⟩, h.l4, h.l6, h.l7, h.n47, fun k hk => by
    rcases hm k hk with e | e
    · exact h.n6 k e
    · intro e2; have := blk_lt h6; omega⟩
theorem ScS.put4 {w w' : World} {B g4 g6 g7 : Nat} {ov : Value} {l : List (UInt8 × List UInt8)} {c c' : List UInt8} (h : ScS w B g4 g6 g7 ov l c) (hg : w.grownBy w' (some g4)) (hW : w'.heap[g4]? = some (.cells (u8s c').toArray 25 (0, 0))) : ScS w' B g4 g6 g7 ov l c' := by
  have hf : Fr (fun k => k = g4) w w' := fr_grown hg (fun k hk => .inl (Option.some.inj hk).symm)
  obtain ⟨x, y, h6⟩ := h.fr
  obtain ⟨d, hd32, h7⟩ := h.nx
  exact ⟨hf.own h.own (fun k hk e => own_ne_blk h.own h.ch (by decide) (by rw [hk, e])), hW, ⟨x, y, hf.blk h6 (fun e => blk_ne h6 h.ch (by decide) e)⟩, ⟨d, hd32, hf.blk h7 (fun e => h.n47 e.symm)⟩, h.l4, h.l6, h.l7, h.n47, h.n6⟩
theorem slF (w : World) (l : List Value) (t : TypeId) : SlCells (w.alloc (Obj.cells l.toArray t)) (some ⟨w.heap.size, 0, none⟩) l := fun _ => ⟨_, rfl, cells_block (tl := []) (by rw [List.append_nil]; exact heap_alloc_new _ _)⟩
theorem infoFrm : (Try.prog.info? 101).map (fun i => (i.zero, i.size, i.bytes)) = some (some (.agg #[.int .i64 0, .string ByteArray.empty]), 2, 24) := by kernel_rfl
theorem oneFr {p : Int} {x : ByteArray} : ∀ v ∈ [Value.int .i64 p, .string x], v.oneCell' = true := by
  intro v hv
  simp only [List.mem_cons, List.not_mem_nil, or_false] at hv
  rcases hv with rfl | rfl <;> rfl
theorem scanAt_len {S : List UInt8} {l : List (UInt8 × List UInt8)} {e : Nat} {c : List UInt8} (h : ScanAt S l e c) : l.length ≤ S.length := by
  obtain ⟨_, _, n, _, h2⟩ := h
  obtain ⟨q1, _, _, _, q5⟩ := scanF_len S.length S beginL
  have e1 : (scanR S).1 = l ++ (scanF n (S.drop e) c).1 := by rw [h2]
  have e2 : (scanR S).1.length = l.length + (scanF n (S.drop e) c).1.length := by rw [e1, List.length_append]
  unfold scanR at e2
  omega
theorem sign_ne {L : List UInt8} (h : ¬ ∃ t, L = 74 :: t) : (((byteF L 0 0).1.toNat : Int) == 74) = false := by
  cases L with
  | nil => rfl
  | cons a t =>
    have : byteF (a :: t) 0 0 = (a, 1, 0) := rfl
    rw [this]
    have hne : a.toNat ≠ 74 := fun e => h ⟨t, by rw [show a = 74 from UInt8.toNat_inj.1 e]⟩
    simp
    omega
theorem jouScan (S : List UInt8) (hS : S.length ≤ 100000000) (w : World) :
    Calls Try.prog 12 #[.string (bs S)] w fun e w' => ∃ ov, e = .returned (.tuple #[ov, .int .i64 ((scanR S).2.1 : Int), idV (scanR S).2.2]) ∧ w'.ownsRow w.heap.size 101 2 ov (scanR S).1.length (frCells (scanR S).1) ∧ Below w.heap.size w w' := by
  have HS := hid hS
  have hsz := bs_size S
  clear hS
  go_enter Try.func12, Try.ntmps12
  have HB := hid (grow_refl w)
  go_wp2_with fail
  refine wp_scope_two 0 1
    (fun a' wr => ∃ (ov : Value) (l : List (UInt8 × List UInt8)) (c : List UInt8) (e g4 g6 g7 : Nat), a'.defers = [] ∧ a'.tmps.size = 62 ∧ a'.tmps.getD 0 undef = .string (bs S) ∧ a'.tmps.getD 2 undef = ov ∧ a'.tmps.getD 3 undef = .int .i64 (e : Int) ∧ a'.tmps.getD 4 undef = .pointer (some ⟨g4, 0, none⟩) ∧ a'.tmps.getD 6 undef = .pointer (some ⟨g6, 0, none⟩) ∧ a'.tmps.getD 7 undef = .pointer (some ⟨g7, 0, none⟩) ∧ a'.tmps.getD 8 undef = .string ByteArray.empty ∧ Hid (ScS wr w.heap.size g4 g6 g7 ov l c) ∧ Hid (ScanAt S l e c) ∧ Hid (Grow w wr))
    (fun a' wr => ∃ (ov : Value) (l : List (UInt8 × List UInt8)) (c : List UInt8) (e g4 : Nat), a'.defers = [] ∧ a'.tmps.size = 62 ∧ a'.tmps.getD 2 undef = ov ∧ a'.tmps.getD 3 undef = .int .i64 (e : Int) ∧ a'.tmps.getD 4 undef = .pointer (some ⟨g4, 0, none⟩) ∧ Hid (wr.ownsRow w.heap.size 101 2 ov l.length (frCells l)) ∧ Hid (wr.heap[g4]? = some (.cells (u8s c).toArray 25 (0, 0))) ∧ Hid (c.length = 32) ∧ Hid (w.heap.size ≤ g4) ∧ Hid (scanR S = (l, e, c)) ∧ Hid (Grow w wr))
    (fun a' _ => S.length - (intOf (a'.tmps.getD 3 undef)).toNat) rfl rfl ?done ?pass ?first
  case done =>
    rintro ⟨T, D⟩ wr ⟨ov, l, c, e, g4, hD, hT, h2, h3, h4, HO, HG, HC, HL, HR, HB⟩
    simp only at hD hT h2 h3 h4
    subst hD
    obtain ⟨U, hU, hUk⟩ := frame62 T hT
    rw [hUk] at h2 h3 h4
    rw [h2, h3, h4] at hU
    subst hU
    clear hT h2 h3 h4 hUk
    go_wp2_with fail
    refine wp_region_floatG (fun W => W.heap[g4]? = some (.cells (u8s c).toArray 25 (0, 0))) [0,1,2,3,4] [] [5] rfl (by kernel_rfl) rfl (by kernel_rfl) (by kernel_rfl) ?_
    intro wf1 hb
    replace HB := hid (Grow.trans HB.out hb)
    replace HO := hid (own_grow HO.out hb)
    replace HG := hid (grow_block HG.out hb)
    clear hb
    refine ⟨HG.out, ?_⟩
    (refine' pickT_val ?po1 ?pw1 ?pr1 ?pq1 ?ph1; (case' po1 => exact rfl); (case' pw1 => rfl); (case' pq1 => (exact fun _ _ _ h => h)); (case' pr1 => (intro w' hw'; go_simp; with_reducible rfl)); (case' ph1 => (try simp only [List.getElem_toArray, List.getElem_cons_zero, List.getElem_cons_succ, Act.put, List.setIfInBounds_toArray, List.set_cons_zero, List.set_cons_succ]))); (refine' pickT_val ?po2 ?pw2 ?pr2 ?pq2 ?ph2; (case' po2 => exact rfl); (case' pw2 => rfl); (case' pq2 => (exact fun _ _ _ h => h)); (case' pr2 => (intro w' hw'; go_simp; with_reducible rfl)); (case' ph2 => (try simp only [List.getElem_toArray, List.getElem_cons_zero, List.getElem_cons_succ, Act.put, List.setIfInBounds_toArray, List.set_cons_zero, List.set_cons_succ])))
    (refine' pickT_val (v := (idV c)) ?po3 ?pw3 ?pr3 ?pq3 ?ph3; (case' po3 => exact rfl); (case' pw3 => rfl); (case' pq3 => (exact fun _ _ _ h => h)); (case' pr3 => (intro w' hw'; exact run_opLoadB rfl rfl hw' Try.underlying25 rfl (by rw [szId]; simp [u8s_length, HC.out]))); (case' ph3 => (try simp only [List.getElem_toArray, List.getElem_cons_zero, List.getElem_cons_succ, Act.put, List.setIfInBounds_toArray, List.set_cons_zero, List.set_cons_succ])))
    (refine' pickT_val ?po4 ?pw4 ?pr4 ?pq4 ?ph4; (case' po4 => exact rfl); (case' pw4 => rfl); (case' pq4 => (exact fun _ _ _ h => h)); (case' pr4 => (intro w' hw'; go_simp; with_reducible rfl)); (case' ph4 => (try simp only [List.getElem_toArray, List.getElem_cons_zero, List.getElem_cons_succ, Act.put, List.setIfInBounds_toArray, List.set_cons_zero, List.set_cons_succ]))); (refine' pickT_val ?po5 ?pw5 ?pr5 ?pq5 ?ph5; (case' po5 => exact rfl); (case' pw5 => rfl); (case' pq5 => (exact fun _ _ _ h => h)); (case' pr5 => (intro w' hw'; go_simp; with_reducible rfl)); (case' ph5 => (try simp only [List.getElem_toArray, List.getElem_cons_zero, List.getElem_cons_succ, Act.put, List.setIfInBounds_toArray, List.set_cons_zero, List.set_cons_succ])))
    refine pickT_nil ?_
    refine seqT_nil ?_
    show wpList _ _ _ (_ :: []) _ _
    refine op_storeId (l := c) rfl rfl rfl rfl rfl HG.out HC.out HC.out ?_
    intro w6 hW hgr hbel
    have HO6 := hid ((fr_grown (D := fun k => k = g4) hgr (fun k hk => .inl (Option.some.inj hk).symm)).own HO.out (fun k hk e => own_ne_blk HO.out HG.out (by decide) (by rw [hk, e])))
    have HB6 := hid (show Grow w w6 from hbel _ _ HB.out HL.out)
    have HG6 := hid hW
    clear hgr hbel hW
    refine wpList_nil ?_
    go_wp2_with fail
    try rw [Exit.noGoto_ret]
    refine bodyPost_ret (results_ttc rfl _ _ g4 _ _ _ _ rfl HG6.out Try.underlying25 rfl (by rw [szId]; simp [u8s_length, HC.out])) rfl ⟨ov, ?_, ?_, HB6.out⟩
    · rw [HR.out]; rfl
    · rw [HR.out]; exact HO6.out
  case first =>
    intro K
    go_wp2_with fail
    refine (jouBegin _).mono ?_
    rintro _ w2 ⟨rfl, hb⟩
    have hga := grow_alloc w (Obj.cells (u8s (zero8 32)).toArray 25)
    have HG4 := hid (show w2.heap[w.heap.size]? = some (.cells (u8s (zero8 32)).toArray 25 (0, 0)) from grow_block (heap_alloc_new w (Obj.cells (u8s (zero8 32)).toArray 25)) hb)
    have HB2 := hid (show Grow w w2 from Grow.trans hga hb)
    obtain ⟨g4, hg4⟩ : ∃ g4, g4 = w.heap.size := ⟨_, rfl⟩
    have HL4 := hid (show w.heap.size ≤ g4 from Nat.le_of_eq hg4.symm)
    rw [← hg4] at HG4 ⊢
    clear hb hga hg4
    go_wp2_with (first | (refine op_storeId (l := beginL) rfl rfl rfl rfl rfl HG4.out (by rfl) beginL_length ?_) | fail)
    intro w3 hW _ hbel
    have HG3 := hid hW
    have HB3 := hid (show Grow w w3 from hbel _ _ HB2.out HL4.out)
    clear hW hbel HG4 HB2
    go_wp2_with fail
    have hr := two_new w3 (Obj.cells #[.int .i64 0, .string ByteArray.empty] 101) (Obj.cells (u8s (zero8 32)).toArray 25)
    apply wp_label
    simp only [Exit.then]
    refine into_K (by assumption) ?_
    refine K _ _ ?_
    have hlt := blk_lt HG3.out
    exact ⟨_, [], beginL, 0, g4, w3.heap.size, w3.heap.size + 1, rfl, rfl, rfl, rfl, rfl, rfl, rfl, rfl, rfl, hid ⟨World.ownsRow_nil _ _ _ _, grow_block HG3.out hr.2.2, ⟨_, _, hr.1⟩, ⟨_, rfl, hr.2.1⟩, HL4.out, HB3.out.size, Nat.le_succ_of_le HB3.out.size, by omega, fun k hk => by simp [Value.ownBlock] at hk⟩, hid ⟨Nat.zero_le _, beginL_length, S.length, Nat.le_refl _, by simp [scanR]⟩, hid (Grow.trans HB3.out hr.2.2)⟩
  case pass =>
    rintro ⟨T, D⟩ wr ⟨ov, l, c, e, g4, g6, g7, hD, hT, h0, h2, h3, h4, h6, h7, h8, HSC, HAT, HB⟩
    simp only at hD hT h0 h2 h3 h4 h6 h7 h8
    subst hD
    rw [h3]
    obtain ⟨U, hU, hUk⟩ := frame62 T hT
    rw [hUk] at h0 h2 h3 h4 h6 h7 h8
    rw [h0, h2, h3, h4, h6, h7, h8] at hU
    subst hU
    clear hT h0 h2 h3 h4 h6 h7 h8 hUk
    have he := HAT.out.1
    have hle : (e : Int) ≤ (S.length : Int) := by omega
    have e0 : (0 : Int) ≤ (e : Int) := by omega
    have hex : (bs S).extract e S.length = bs (S.drop e) := by rw [bs_extract]; exact congrArg bs (List.take_of_length_le (by simp))
    go_wp2_with fail
    refine (rdNew (S.drop e) _).mono ?_
    rintro _ w1 ⟨g, rfl, hgl, hg, hb⟩
    have HGS := hid (show w.heap.size ≤ g from Nat.le_trans HB.out.size hgl)
    have hL9 : (S.drop e).length ≤ 1000000000 := by have := HS.out; simp; omega
    obtain ⟨L, hLd⟩ : ∃ L, L = S.drop e := ⟨_, rfl⟩
    rw [← hLd] at hg hL9 ⊢
    have HLD := hid hLd
    have HRD := hid hg
    replace HSC := hid (HSC.out.grow hb)
    replace HB := hid (Grow.trans HB.out hb)
    clear hgl hg hb hLd hex hle e0
    go_wp2_with fail
    refine (rdByteF g L 0 0 (Nat.zero_le _) hL9 _ HRD.out).mono ?_
    rintro _ w2 ⟨rfl, hg2, hf⟩
    replace HSC := hid (HSC.out.frR hf HRD.out)
    replace HB := hid (show Grow w w2 from Below.trans (show Below w.heap.size w w1 from HB.out) (hf.below (fun k hk => by subst hk; exact HGS.out) HB.out.size))
    clear hf HRD
    by_cases hs : ∃ t, L = 74 :: t
    case neg =>
      have hne := sign_ne hs
      have HN := hid (show oneF (S.drop e) c = none by rw [← HLD.out]; exact oneF_short c L (fun t ht => hs ⟨t, ht⟩))
      clear hs hg2
      go_wp2_with fail
      apply wp_goto
      simp only [Exit.then, Exit.inBlock, Exit.two]
      exact .inr ⟨rfl, ov, l, c, e, g4, rfl, rfl, rfl, rfl, rfl, hid HSC.out.own, hid HSC.out.ch, hid HAT.out.2.1, hid HSC.out.l4, hid (scanAt_none HAT.out HN.out), HB⟩
    obtain ⟨t, ht⟩ := hs
    have hb0 : byteF L 0 0 = (74, 1, 0) := by rw [ht]; rfl
    have HLT := hid ht
    rw [hb0] at hg2 ⊢
    have HRD := hid (show w2.heap[g]? = some (rdOb L 1 0) from hg2)
    have hp0 : 1 ≤ L.length := by rw [ht]; simp
    clear ht hb0 hg2
    go_wp2_with fail
    refine (rdByteF g L 1 0 hp0 hL9 _ HRD.out).mono ?_
    rintro _ w3 ⟨rfl, hg2, hf⟩
    have hp1 := byteF_le (L := L) (p := 1) (e := 0) hp0
    obtain ⟨k, p1, e1, hk1⟩ : ∃ k p1 e1, byteF L 1 0 = (k, p1, e1) := ⟨_, _, _, rfl⟩
    rw [hk1] at hg2 hp1 ⊢
    dsimp only at hp1 ⊢
    have HK1 := hid hk1
    replace HSC := hid (HSC.out.frR hf HRD.out)
    replace HB := hid (show Grow w w3 from Below.trans (show Below w.heap.size w w2 from HB.out) (hf.below (fun k hk => by subst hk; exact HGS.out) HB.out.size))
    replace HRD := hid (show w3.heap[g]? = some (rdOb L p1 e1) from hg2)
    have hkw : IntKind.i64.wrap (k.toNat : Int) = (k.toNat : Int) := by have := k.toNat_lt; simp [IntKind.wrap, IntKind.signed, IntKind.bits]; omega
    clear hk1 hg2 hf
    go_wp2_with fail
    refine (rdTextF g L p1 e1 hp1 hL9 _ HRD.out).mono ?_
    rintro _ w4 ⟨rfl, hg2, hf⟩
    have hp2 := textF_le (L := L) (p := p1) (e := e1) hp1
    have hxm := textF_most (L := L) (p := p1) (e := e1)
    obtain ⟨x, p2, e2, hk2⟩ : ∃ x p2 e2, textF L p1 e1 = (x, p2, e2) := ⟨_, _, _, rfl⟩
    rw [hk2] at hg2 hp2 hxm ⊢
    dsimp only at hp2 hxm ⊢
    have HK2 := hid hk2
    replace HSC := hid (HSC.out.frR hf HRD.out)
    replace HB := hid (show Grow w w4 from Below.trans (show Below w.heap.size w w3 from HB.out) (hf.below (fun k hk => by subst hk; exact HGS.out) HB.out.size))
    replace HRD := hid (show w4.heap[g]? = some (rdOb L p2 e2) from hg2)
    have HXM := hid hxm
    clear hk2 hg2 hf hxm
    obtain ⟨x6, y6, h6⟩ := HSC.out.fr
    have H6 := hid h6
    clear h6
    go_wp2_with (first | (refine store_block 101 _ _ g6 0 [.int .i64 (k.toNat : Int), .string (bs x)] [x6, y6] [.int .i64 (k.toNat : Int), .string (bs x)] 101 rfl rfl rfl rfl rfl H6.out (by kernel_rfl) (by simp) (by intro v hv; simp only [List.mem_cons, List.not_mem_nil, or_false] at hv; rcases hv with rfl | rfl <;> rfl) rfl ?_) | fail)
    intro w5 hW hgr hbel
    replace HRD := hid (blk_other' hgr HRD.out (fun e => blk_ne H6.out HRD.out (by decide) (Option.some.inj e)))
    replace HB := hid (show Grow w w5 from hbel _ _ HB.out HSC.out.l6)
    replace HSC := hid (HSC.out.put6 H6.out hgr hW)
    replace H6 := hid (show w5.heap[g6]? = some (.cells #[.int .i64 (k.toNat : Int), .string (bs x)] 101 (0, 0)) from hW)
    clear hW hgr hbel
    go_wp2_with fail
    go_loopg [8, 24] 9 (fun z v i wr2 => ∃ j : Nat, j ≤ 8 ∧ z = 9 - j ∧ i = .int .i64 (j : Int) ∧ v = .string (bs (eightF L p2 e2 j).1) ∧ Hid (wr2.heap[g]? = some (rdOb L (eightF L p2 e2 j).2.1 (eightF L p2 e2 j).2.2)) ∧ Hid (ScS wr2 w.heap.size g4 g6 g7 ov l c) ∧ Hid (wr2.heap[g6]? = some (.cells #[.int .i64 (k.toNat : Int), .string (bs x)] 101 (0, 0))) ∧ Hid (Grow w wr2))
    case atStart => exact ⟨0, by omega, by omega, rfl, rfl, HRD, HSC, H6, HB⟩
    case round =>
      clear HRD HSC H6 HB
      obtain ⟨j, hj, hz, rfl, rfl, HRD, HSC, H6, HB⟩ := hrel
      have j0 : (0 : Int) ≤ (j : Int) := by omega
      obtain ⟨h81, h82⟩ := eightF_le (L := L) (p := p2) (e := e2) hp2 j
      by_cases hj8 : j < 8
      · have j8 : (j : Int) < 8 := by omega
        have H8N := hid (show eightF L p2 e2 (j + 1) = ((eightF L p2 e2 j).1 ++ [(byteF L (eightF L p2 e2 j).2.1 (eightF L p2 e2 j).2.2).1], (byteF L (eightF L p2 e2 j).2.1 (eightF L p2 e2 j).2.2).2) from rfl)
        generalize eightF L p2 e2 j = st at *
        obtain ⟨acc, pj, ej⟩ := st
        dsimp only at h81 h82 H8N HRD
        go_wp2_with fail
        refine (rdByteF g L pj ej h81 hL9 _ HRD.out).mono ?_
        rintro _ w7 ⟨rfl, hg2, hf⟩
        obtain ⟨b, q, f, hb3⟩ : ∃ b q f, byteF L pj ej = (b, q, f) := ⟨_, _, _, rfl⟩
        rw [hb3] at hg2 H8N ⊢
        dsimp only at H8N ⊢
        replace HSC := hid (HSC.out.frR hf HRD.out)
        replace H6 := hid (hf.blk H6.out (fun e => blk_ne H6.out HRD.out (by decide) e))
        replace HB := hid (show Grow w w7 from Below.trans (show Below w.heap.size w wr from HB.out) (hf.below (fun k hk => by subst hk; exact HGS.out) HB.out.size))
        replace HRD := hid (show w7.heap[g]? = some (rdOb L q f) from hg2)
        have hcv := byte_str w7 b.toNat b.toNat_lt
        rw [of_toNat] at hcv
        have hap := bs_append acc [b]
        have HAP := hid hap
        have hs1 : (bs acc).size ≤ 8 := by rw [bs_size]; omega
        have hs2 : (bs [b]).size = 1 := bs_size _
        have hs3 : ¬ 9223372036854775807 < (bs acc).size + (bs [b]).size := by omega
        have hga := grow_alloc w7 (.cells #[.int .u8 (b.toNat : Int)] 5)
        clear hb3 hg2 hf
        go_wp2_with fail
        go_roundg (9 - (j + 1))
        case rel => exact ⟨j + 1, by omega, rfl, by go_num, by rw [H8N.out], hid (by rw [H8N.out]; exact grow_block HRD.out hga), hid (HSC.out.grow hga), hid (grow_block H6.out hga), hid (Grow.trans HB.out hga)⟩
        case measure => omega
      obtain rfl : j = 8 := by omega
      clear hj8 hj hz j0
      obtain ⟨sh, p3, e3, hk3⟩ : ∃ sh p3 e3, eightF L p2 e2 8 = (sh, p3, e3) := ⟨_, _, _, rfl⟩
      rw [hk3] at HRD h81 h82 ⊢
      dsimp only at HRD h81 h82 ⊢
      have hrd := HLT.out ▸ oneF_read c t k p1 p2 p3 e1 e2 e3 x sh (by rw [← HLT.out]; exact HK1.out) (by rw [← HLT.out]; exact HK2.out) (by rw [← HLT.out]; exact hk3)
      have HRS := hid (show (e3 ≠ 0 → oneF (S.drop e) c = none) ∧ (e3 = 0 → oneF (S.drop e) c = if k ≠ 0 ∧ sh = (nextL c k x).take 8 then some (k, x, p3) else none) by rw [← HLD.out, HLT.out]; exact oneF_read c t k p1 p2 p3 e1 e2 e3 x sh (by rw [← HLT.out]; exact HK1.out) (by rw [← HLT.out]; exact HK2.out) (by rw [← HLT.out]; exact hk3))
      clear hk3 hrd
      go_wp2_with fail
      refine (rdErr g L p3 e3 _ HRD.out).mono ?_
      rintro _ w8 ⟨rfl, rfl⟩
      by_cases he3 : e3 = 0
      case neg =>
        have hne : (e3 == 0) = false := by simpa using he3
        have HN := hid (HRS.out.1 he3)
        clear he3
        go_wp2_with fail
        apply wp_goto
        simp only [Exit.then, Exit.inBlock, Exit.two]
        exact .inr ⟨rfl, ov, l, c, e, g4, rfl, rfl, rfl, rfl, rfl, hid HSC.out.own, hid HSC.out.ch, hid HAT.out.2.1, hid HSC.out.l4, hid (scanAt_none HAT.out HN.out), HB⟩
      subst he3
      have HN1 := hid (HRS.out.2 rfl)
      clear HRS
      go_wp2_with (first | (refine op_loadId rfl rfl rfl HSC.out.ch HAT.out.2.1 ?_) | (refine opG_loadB rfl rfl rfl H6.out Try.underlying101 rfl rfl ?_) | fail)
      obtain ⟨d7, hd7, h7⟩ := HSC.out.nx
      have H7 := hid h7
      have HD7 := hid hd7
      clear h7 hd7
      by_cases hk0 : k = 0
      · refine (jouNext_kind c (bs x) (k.toNat : Int) (.inl (by rw [hk0]; decide)) HAT.out.2.1 _).mono ?_
        rintro _ w9 ⟨rfl, hb⟩
        replace HSC := hid (HSC.out.grow hb)
        replace HB := hid (Grow.trans HB.out hb)
        replace H7 := hid (grow_block H7.out hb)
        have HN := hid (show oneF (S.drop e) c = none by rw [HN1.out, if_neg (fun h => h.1 hk0)])
        clear hb hk0
        go_wp2_with (first | (refine op_storeId (l := zero8 32) rfl rfl rfl rfl rfl H7.out HD7.out rfl ?_) | fail)
        intro wa hW hgr hbel
        replace HB := hid (show Grow w wa from hbel _ _ HB.out HSC.out.l7)
        replace HSC := hid (HSC.out.put7 H7.out hgr hW rfl)
        clear hW hgr hbel H7
        go_wp2_with fail
        apply wp_goto
        simp only [Exit.then, Exit.inBlock, Exit.two]
        exact .inr ⟨rfl, ov, l, c, e, g4, rfl, rfl, rfl, rfl, rfl, hid HSC.out.own, hid HSC.out.ch, hid HAT.out.2.1, hid HSC.out.l4, hid (scanAt_none HAT.out HN.out), HB⟩
      refine (jouNext c x k HAT.out.2.1 HXM.out hk0 _).mono ?_
      rintro _ w9 ⟨rfl, hb⟩
      replace HSC := hid (HSC.out.grow hb)
      replace HB := hid (Grow.trans HB.out hb)
      replace H7 := hid (grow_block H7.out hb)
      replace HRD := hid (grow_block HRD.out hb)
      replace H6 := hid (grow_block H6.out hb)
      have HNL := hid (nextL_length c k x)
      have HK0 := hid hk0
      clear hb hk0
      obtain ⟨N, hN⟩ : ∃ N, N = nextL c k x := ⟨_, rfl⟩
      have HNN := hid hN
      rw [← hN] at HNL HN1 ⊢
      clear hN
      go_wp2_with (first | (refine op_storeId (l := N) rfl rfl rfl rfl rfl H7.out HD7.out HNL.out ?_) | fail)
      intro wa hW hgr hbel
      replace HB := hid (show Grow w wa from hbel _ _ HB.out HSC.out.l7)
      replace HRD := hid (blk_other' hgr HRD.out (fun e => blk_ne H7.out HRD.out (by decide) (Option.some.inj e)))
      replace H6 := hid (blk_other' hgr H6.out (fun e => blk_ne H7.out H6.out (by decide) (Option.some.inj e)))
      replace HSC := hid (HSC.out.put7 H7.out hgr hW HNL.out)
      replace H7 := hid hW
      clear hW hgr hbel
      have HT8 := hid (show (N.take 8).length = 8 by rw [List.length_take, HNL.out]; rfl)
      have hcv : (convert 51 9 (.slice (some ⟨g7, 0, none⟩) 8 32)).run Try.prog wa = .ok (.string (bs (N.take 8))) wa :=
        run_str wa 51 5 9 Try.underlying51 Try.underlying5 Try.underlying9 g7 0 32 (N.take 8) (fun i hi => by rw [HT8.out] at hi; rw [Nat.zero_add]; have h := cell_u8 H7.out (grow_refl wa) i (by rw [HNL.out]; omega); rw [h]; simp [b8, List.getD_eq_getElem?_getD, List.getElem?_take, hi]) 8 HT8.out
      by_cases hsh : sh = N.take 8
      case neg =>
        have hne : ((bs (N.take 8)).toList == (bs sh).toList) = false := toList_beq_ne (fun h => hsh (bs_inj h).symm)
        have HN := hid (show oneF (S.drop e) c = none by rw [HN1.out, if_neg (fun h => hsh h.2)])
        clear hsh
        go_wp2_with fail
        apply wp_goto
        simp only [Exit.then, Exit.inBlock, Exit.two]
        exact .inr ⟨rfl, ov, l, c, e, g4, rfl, rfl, rfl, rfl, rfl, hid HSC.out.own, hid HSC.out.ch, hid HAT.out.2.1, hid HSC.out.l4, hid (scanAt_none HAT.out HN.out), HB⟩
      have heq : ((bs (N.take 8)).toList == (bs sh).toList) = true := by rw [hsh]; simp
      have HON := hid (show oneF (S.drop e) c = some (k, x, p3) by rw [HN1.out, if_pos ⟨HK0.out, hsh⟩])
      clear hsh HN1
      have HLN := hid (scanAt_len HAT.out)
      have HSZ := hid (show w.heap.size ≤ wa.heap.size from HB.out.size)
      go_wp2_with (first | (refine opG_loadB rfl rfl rfl H6.out Try.underlying101 rfl rfl ?_) | (refine op_appOwn (n := l.length) (m := 1) (v := ov) (B := w.heap.size) (news := [.int .i64 (k.toNat : Int), .string (bs x)]) rfl rfl Try.underlying23 infoFrm rfl (by decide) rfl rfl rfl (slF _ _ _) (fun h => by cases h) oneFr (own_grow HSC.out.own (grow_alloc _ _)) (Nat.le_trans HSZ.out (grow_alloc _ _).size) (by have := HLN.out; have := HS.out; omega) (by have := HLN.out; have := HS.out; omega) ?_) | fail)
      intro v1 wb ho1 hg1 hm1
      have hga := grow_alloc wa (Obj.cells #[.int .i64 (k.toNat : Int), .string (bs x)] 101)
      have hsa := HSC.out.grow hga
      have HB1 := hid (show Grow w wb from Below.trans (show Below w.heap.size w _ from Grow.trans HB.out hga) ((fr_grown (D := fun k => ov.ownBlock = some k) hg1 (fun k hk => .inl hk)).below (fun k hk => (own_lt hsa.own hk).1) (Nat.le_trans HSZ.out hga.size)))
      have HRD1 := hid (blk_other' hg1 (grow_block HRD.out hga) (own_ne_blk hsa.own (grow_block HRD.out hga) (by decide)))
      have H71 := hid (blk_other' hg1 (grow_block H7.out hga) (own_ne_blk hsa.own (grow_block H7.out hga) (by decide)))
      have HSC1 := hid (hsa.app (k := k) (x := x) ho1 hg1 hm1)
      have HAT1 := hid (scanAt_some HAT.out HON.out)
      have hat := HAT1.out
      have hep : e + p3 ≤ S.length := hat.1.1
      have hp32 : 2 ≤ p3 := hat.2
      have hs9 := HS.out
      have wep : IntKind.i64.wrap ((e : Int) + (p3 : Int)) = (e : Int) + (p3 : Int) := by simp [IntKind.wrap, IntKind.signed, IntKind.bits]; omega
      clear ho1 hg1 hm1 hga hsa HSC HRD H7 H6 HB hat hs9
      go_wp2_with fail
      refine (rdPlace g L p3 0 _ HRD1.out).mono ?_
      rintro _ wc ⟨rfl, rfl⟩
      go_wp2_with (first | (refine op_loadId rfl rfl rfl H71.out HNL.out ?_) | (refine op_storeId (l := N) rfl rfl rfl rfl rfl HSC1.out.ch HAT.out.2.1 HNL.out ?_) | fail)
      intro wd hW hgr hbel
      have HB2 := hid (show Grow w wd from hbel _ _ HB1.out HSC1.out.l4)
      have HSC2 := hid (HSC1.out.put4 hgr hW)
      clear hW hgr hbel
      go_wp2_with fail
      apply wp_goto
      simp only [Exit.then, Exit.inBlock, Exit.two]
      refine .inl ⟨rfl, ⟨v1, l ++ [(k, x)], N, e + p3, g4, g6, g7, rfl, rfl, rfl, rfl, ?_, rfl, rfl, rfl, rfl, HSC2, hid (by rw [HNN.out]; exact HAT1.out.1), HB2⟩, ?_⟩
      · exact congrArg (Value.int .i64) (by show (e : Int) + (p3 : Int) = ((e + p3 : Nat) : Int); omega)
      · show S.length - ((e : Int) + (p3 : Int)).toNat < S.length - ((e : Int)).toNat
        omega
end Go.Proofs.Ytabkaflccaklhaa
