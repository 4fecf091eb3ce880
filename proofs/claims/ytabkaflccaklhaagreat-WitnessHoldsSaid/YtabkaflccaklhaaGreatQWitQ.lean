/- Joined: QWitP QWit1 QWit2 QWit3 QWit4 QWit5. -/
import Derived.Test.YtabkaflccaklhaaGreatQSig7
import Derived.Test.YtabkaflccaklhaaGreatQFr
import Derived.Test.YtabkaflccaklhaaGreatQMerP
import Derived.Test.YtabkaflccaklhaaGreatQWitX
import Derived.Test.YtabkaflccaklhaaGreatQFlo
set_option linter.unusedSimpArgs false
set_option linter.unusedVariables false
section
/- Witness, plain: rows of leaves and sums, the texts of a climb, where they are unlike; what follows where all are alike. -/
namespace Go.Proofs.YtabkaflccaklhaaGreat
open Go.RowKit
open Go.Qk hiding rotr b4
set_option maxHeartbeats 1000000
abbrev WRow := Int × IdK
def leafName : ByteArray := ⟨#[108, 101, 97, 102]⟩
def keyName : ByteArray := ⟨#[107, 101, 121]⟩
def alikeB (n : Nat) (a b : IdK) : Bool := (List.range n).all fun i => decide (bitI a i = bitI b i)
def honestW (n : Nat) (l : List WRow) (sum : IdK) (leaf : Int) : Bool := l.any fun r => decide (r.1 = leaf) && alikeB n r.2 sum
def shownW (l : List WRow) (leaf : Int) (bit : Nat) (side : Int) : Bool := l.any fun r => decide (r.1 = leaf) && decide (bitI r.2 bit = side)
def keepsW (l : List WRow) : Prop := (l.map Prod.fst).Nodup
def firstW (n : Nat) (l : List WRow) (sum : IdK) (leaf : Int) : Option Nat := (List.range n).find? fun b => !shownW l leaf b (bitI sum b)
theorem none_keeps {n : Nat} (hn : 0 < n) {l : List WRow} {sum : IdK} {leaf : Int} (h1 : honestW n l sum leaf = false) (h2 : firstW n l sum leaf = none) : ¬ keepsW l := by
  intro hk
  unfold firstW at h2
  rw [List.find?_eq_none] at h2
  have key : ∀ b, b < n → ∃ r ∈ l, r.1 = leaf ∧ bitI r.2 b = bitI sum b := by
    intro b hb
    have := h2 b (List.mem_range.2 hb)
    simp only [Bool.not_eq_true', Bool.not_eq_false] at this
    unfold shownW at this
    obtain ⟨r, hr, hq⟩ := List.any_eq_true.1 this
    simp only [Bool.and_eq_true, decide_eq_true_eq] at hq
    exact ⟨r, hr, hq⟩
  obtain ⟨r, hr, hl, _⟩ := key 0 hn
  have one : ∀ q ∈ l, q.1 = leaf → q = r := by
    intro q hq hql
    have hp : l.Pairwise (fun a b => a.1 ≠ b.1) := List.pairwise_map.1 hk
    by_cases he : q = r
    · exact he
    · exfalso
      obtain ⟨i, hi, rfl⟩ := List.mem_iff_getElem.1 hq
      obtain ⟨j, hj, rfl⟩ := List.mem_iff_getElem.1 hr
      rw [List.pairwise_iff_getElem] at hp
      rcases Nat.lt_trichotomy i j with h | h | h
      · exact hp i j hi hj h (hql.trans hl.symm)
      · subst h; exact he rfl
      · exact hp j i hj hi h (hl.trans hql.symm)
  have : honestW n l sum leaf = true := by
    unfold honestW
    refine List.any_eq_true.2 ⟨r, hr, ?_⟩
    simp only [Bool.and_eq_true, decide_eq_true_eq]
    refine ⟨hl, ?_⟩
    unfold alikeB
    refine List.all_eq_true.2 fun b hb => ?_
    obtain ⟨q, hq, hql, hqb⟩ := key b (List.mem_range.1 hb)
    rw [one q hq hql] at hqb
    simpa using hqb
  rw [h1] at this
  cases this
/-- The texts. -/
def keyTx (b h : Nat) (root : IdK) : List UInt8 := textOf keyName (keyParts b h root)
def nodeTx (a b : IdK) : List UInt8 := textOf nodeName [bs a, bs b]
def leafTx (l : List IdK) : List UInt8 := textOf leafName [bs l.flatten]
theorem keyTx_sum (b h : Nat) (root : IdK) : shaOf (keyTx b h root) = keyOf b h root := rfl
theorem nodeTx_sum (a b : IdK) : shaOf (nodeTx a b) = nd a b := by
  unfold nd pairOf
  rw [cutName_short nodeName (by decide)]
  rfl
theorem leafTx_sum (l : List IdK) : shaOf (leafTx l) = chainOf leafName l := by
  unfold chainOf
  rw [cutName_short leafName (by decide)]
  rfl
theorem keyTx_inj {b h : Nat} {r s : IdK} (hr : r.length = 32) (hs : s.length = 32) (e : keyTx b h r = keyTx b h s) : r = s := by
  have sz : ∀ (r : IdK), r.length = 32 → ∀ t ∈ keyParts b h r, t.size ≤ 9223372036854775807 := by
    intro r hr t ht
    simp only [keyParts, List.mem_cons, List.not_mem_nil, or_false] at ht
    rcases ht with rfl | rfl | rfl
    · rw [bs_size, be_length]; omega
    · rw [bs_size, be_length]; omega
    · rw [bs_size]; omega
  have := (textOf_inj (by decide) (by decide) (sz r hr) (sz s hs) e).2
  injection this with _ e2
  injection e2 with _ e3
  injection e3 with e4 _
  exact bs_inj e4
theorem nodeTx_inj {a b c d : IdK} (ha : a.length = 32) (hb : b.length = 32) (hc : c.length = 32) (hd : d.length = 32) (e : nodeTx a b = nodeTx c d) : a = c ∧ b = d := by
  have sz : ∀ (x y : IdK), x.length = 32 → y.length = 32 → ∀ t ∈ [bs x, bs y], t.size ≤ 9223372036854775807 := by
    intro x y hx hy t ht
    simp only [List.mem_cons, List.not_mem_nil, or_false] at ht
    rcases ht with rfl | rfl <;> rw [bs_size] <;> omega
  have := (textOf_inj (by decide) (by decide) (sz a b ha hb) (sz c d hc hd) e).2
  injection this with e1 e2
  injection e2 with e2 _
  exact ⟨bs_inj e1, bs_inj e2⟩
theorem flatten32 : ∀ (l m : List IdK), (∀ s ∈ l, s.length = 32) → (∀ s ∈ m, s.length = 32) → l.flatten = m.flatten → l = m
  | [], [], _, _, _ => rfl
  | [], b :: m, _, h2, e => by
    exfalso
    have := congrArg List.length e
    simp [h2 b List.mem_cons_self] at this
    try omega
  | a :: l, [], h1, _, e => by
    exfalso
    have := congrArg List.length e
    simp [h1 a List.mem_cons_self] at this
    try omega
  | a :: l, b :: m, h1, h2, e => by
    rw [List.flatten_cons, List.flatten_cons] at e
    obtain ⟨e1, e2⟩ := List.append_inj e (by rw [h1 a List.mem_cons_self, h2 b List.mem_cons_self])
    rw [e1, flatten32 l m (fun s hs => h1 s (List.mem_cons_of_mem _ hs)) (fun s hs => h2 s (List.mem_cons_of_mem _ hs)) e2]
theorem flatten32_length : ∀ (l : List IdK), (∀ s ∈ l, s.length = 32) → l.flatten.length = 32 * l.length
  | [], _ => rfl
  | a :: l, h => by
    rw [List.flatten_cons, List.length_append, flatten32_length l (fun s hs => h s (List.mem_cons_of_mem _ hs)), h a List.mem_cons_self, List.length_cons]
    omega
theorem leafTx_inj {l m : List IdK} (h1 : ∀ s ∈ l, s.length = 32) (h2 : ∀ s ∈ m, s.length = 32) (b1 : l.length ≤ 1000000) (b2 : m.length ≤ 1000000) (e : leafTx l = leafTx m) : l = m := by
  have sz : ∀ (l : List IdK), (∀ s ∈ l, s.length = 32) → l.length ≤ 1000000 → ∀ t ∈ [bs l.flatten], t.size ≤ 9223372036854775807 := by
    intro l hl hb t ht
    rw [List.mem_singleton.1 ht, bs_size, flatten32_length l hl]
    omega
  have := (textOf_inj (by decide) (by decide) (sz l h1 b1) (sz m h2 b2) e).2
  injection this with e1 _
  exact flatten32 l m h1 h2 (bs_inj e1)
abbrev TxP := List UInt8 × List UInt8
/-- What a climb has come to below a level, and the two that it joins there. -/
def curW (leaf : Nat) (s0 : IdK) (way : List IdK) (k : Nat) : IdK := climbTo leaf s0 (way.take k)
def sideA (leaf : Nat) (s0 : IdK) (way : List IdK) (k : Nat) : IdK := if leaf / 2 ^ k % 2 = 1 then way.getD k [] else curW leaf s0 way k
def sideB (leaf : Nat) (s0 : IdK) (way : List IdK) (k : Nat) : IdK := if leaf / 2 ^ k % 2 = 1 then curW leaf s0 way k else way.getD k []
def nodeP (seed : ByteArray) (b leaf : Nat) (s0 : IdK) (way : List IdK) (k : Nat) : TxP :=
  (nodeTx (sideA leaf s0 way k) (sideB leaf s0 way k), nodeTx (nodeOf seed b k (2 * (leaf / 2 ^ (k + 1)))) (nodeOf seed b k (2 * (leaf / 2 ^ (k + 1)) + 1)))
def textsW (seed : ByteArray) (b h leaf : Nat) (s0 : IdK) (way pubs : List IdK) : List TxP :=
  (keyTx b h (climbTo leaf s0 way), keyTx b h (nodeOf seed b h 0)) :: ((List.range way.length).map (nodeP seed b leaf s0 way)).reverse ++ [(leafTx pubs, leafTx (bothRow (leafPub seed leaf) b))]
def unlikeP (t : TxP) : Bool := decide (t.1 ≠ t.2)
theorem curW_succ (leaf : Nat) (s0 : IdK) (way : List IdK) (k : Nat) (hk : k < way.length) : curW leaf s0 way (k + 1) = nd (sideA leaf s0 way k) (sideB leaf s0 way k) := by
  unfold curW sideA sideB
  rw [List.take_succ_eq_append_getElem hk, climbTo_snoc, List.length_take, Nat.min_eq_left (by omega)]
  have e : way.getD k [] = way[k] := by simp [hk]
  rw [e]
  split <;> rfl
theorem curW_length (leaf : Nat) (s0 : IdK) (way : List IdK) (k : Nat) (h0 : s0.length = 32) : (curW leaf s0 way k).length = 32 := climbTo_length _ _ _ h0
theorem way_len {way : List IdK} (h : ∀ s ∈ way, s.length = 32) {k : Nat} (hk : k < way.length) : (way.getD k []).length = 32 := h _ (by simp [hk])
theorem nodeP_step (seed : ByteArray) (b leaf : Nat) (s0 : IdK) (way : List IdK) (k : Nat) (hk : k < way.length) (h0 : s0.length = 32) (hw : ∀ s ∈ way, s.length = 32) (hp : curW leaf s0 way (k + 1) = nodeOf seed b (k + 1) (leaf / 2 ^ (k + 1))) :
    shaOf (nodeP seed b leaf s0 way k).1 = shaOf (nodeP seed b leaf s0 way k).2 ∧ (unlikeP (nodeP seed b leaf s0 way k) = false → curW leaf s0 way k = nodeOf seed b k (leaf / 2 ^ k)) := by
  rw [curW_succ leaf s0 way k hk] at hp
  have e2 : leaf / 2 ^ (k + 1) = leaf / 2 ^ k / 2 := by rw [Nat.pow_succ, Nat.div_div_eq_div_mul]
  have lc := curW_length leaf s0 way k h0
  have lw := way_len hw hk
  refine ⟨?_, fun hu => ?_⟩
  · unfold nodeP
    rw [nodeTx_sum, nodeTx_sum, hp]
    rfl
  · unfold unlikeP at hu
    have hu' : (nodeP seed b leaf s0 way k).1 = (nodeP seed b leaf s0 way k).2 := by simpa using hu
    unfold nodeP at hu'
    have l1 : (sideA leaf s0 way k).length = 32 := by unfold sideA; split <;> assumption
    have l2 : (sideB leaf s0 way k).length = 32 := by unfold sideB; split <;> assumption
    obtain ⟨q1, q2⟩ := nodeTx_inj l1 l2 (nodeOf_length _ _ _ _) (nodeOf_length _ _ _ _) hu'
    rw [e2] at q1 q2
    unfold sideA at q1
    unfold sideB at q2
    by_cases ho : leaf / 2 ^ k % 2 = 1
    · rw [if_pos ho] at q2
      rw [q2, show 2 * (leaf / 2 ^ k / 2) + 1 = leaf / 2 ^ k by omega]
    · rw [if_neg ho] at q1
      rw [q1, show 2 * (leaf / 2 ^ k / 2) = leaf / 2 ^ k by omega]
theorem texts_down (seed : ByteArray) (b leaf : Nat) (s0 : IdK) (way pubs : List IdK) (h0 : s0.length = 32) (hw : ∀ s ∈ way, s.length = 32) (hs : s0 = chainOf leafName pubs) (hp1 : ∀ s ∈ pubs, s.length = 32) (hp2 : pubs.length ≤ 1000000) (hb : b ≤ 256) :
    ∀ k, k ≤ way.length → curW leaf s0 way k = nodeOf seed b k (leaf / 2 ^ k) →
      (∀ t, (((List.range k).map (nodeP seed b leaf s0 way)).reverse ++ [(leafTx pubs, leafTx (bothRow (leafPub seed leaf) b))]).find? unlikeP = some t → t.1 ≠ t.2 ∧ shaOf t.1 = shaOf t.2) ∧
      ((((List.range k).map (nodeP seed b leaf s0 way)).reverse ++ [(leafTx pubs, leafTx (bothRow (leafPub seed leaf) b))]).find? unlikeP = none → pubs = bothRow (leafPub seed leaf) b)
  | 0, _, hc => by
    have hc' : s0 = leafOf seed leaf b := by simpa [curW, climbTo, nodeOf] using hc
    have hsum : shaOf (leafTx pubs) = shaOf (leafTx (bothRow (leafPub seed leaf) b)) := by rw [leafTx_sum, leafTx_sum, ← hs, hc']; rfl
    simp only [List.range_zero, List.map_nil, List.reverse_nil, List.nil_append, List.find?_cons, List.find?_nil]
    cases hu : unlikeP (leafTx pubs, leafTx (bothRow (leafPub seed leaf) b))
    · refine ⟨fun t h => by simp at h, fun _ => ?_⟩
      have : leafTx pubs = leafTx (bothRow (leafPub seed leaf) b) := by simpa [unlikeP] using hu
      exact leafTx_inj hp1 (bothRow_32 _ (leafPub_length seed leaf) b) hp2 (by rw [bothRow_length]; omega) this
    · refine ⟨fun t h => ?_, fun h => by simp at h⟩
      have e : (leafTx pubs, leafTx (bothRow (leafPub seed leaf) b)) = t := by simpa using h
      rw [← e]
      exact ⟨by simpa [unlikeP] using hu, hsum⟩
  | k + 1, hk, hc => by
    obtain ⟨q1, q2⟩ := nodeP_step seed b leaf s0 way k (by omega) h0 hw hc
    have ih := texts_down seed b leaf s0 way pubs h0 hw hs hp1 hp2 hb k (by omega)
    rw [List.range_succ, List.map_append, List.reverse_append]
    simp only [List.map_cons, List.map_nil, List.reverse_cons, List.reverse_nil, List.nil_append, List.cons_append, List.find?_cons]
    cases hu : unlikeP (nodeP seed b leaf s0 way k)
    · exact ih (q2 hu)
    · refine ⟨fun t h => ?_, fun h => by simp at h⟩
      have e : nodeP seed b leaf s0 way k = t := by simpa using h
      rw [← e]
      exact ⟨by simpa [unlikeP] using hu, q1⟩
theorem texts_law (seed : ByteArray) (b h leaf : Nat) (s0 : IdK) (way pubs : List IdK) (h0 : s0.length = 32) (hw : ∀ s ∈ way, s.length = 32) (hs : s0 = chainOf leafName pubs) (hp1 : ∀ s ∈ pubs, s.length = 32) (hp2 : pubs.length ≤ 1000000) (hb : b ≤ 256)
    (hh : way.length = h) (hl : leaf < 2 ^ h) (hk : keyOf b h (climbTo leaf s0 way) = ktOf seed b h) :
    (∀ t, (textsW seed b h leaf s0 way pubs).find? unlikeP = some t → t.1 ≠ t.2 ∧ shaOf t.1 = shaOf t.2) ∧ ((textsW seed b h leaf s0 way pubs).find? unlikeP = none → pubs = bothRow (leafPub seed leaf) b) := by
  unfold textsW
  rw [List.cons_append, List.find?_cons]
  cases hu : unlikeP (keyTx b h (climbTo leaf s0 way), keyTx b h (nodeOf seed b h 0))
  · have e : keyTx b h (climbTo leaf s0 way) = keyTx b h (nodeOf seed b h 0) := by simpa [unlikeP] using hu
    have e1 := keyTx_inj (climbTo_length _ _ _ h0) (nodeOf_length _ _ _ _) e
    exact texts_down seed b leaf s0 way pubs h0 hw hs hp1 hp2 hb way.length (Nat.le_refl _) (by unfold curW; rw [List.take_length, e1, hh, Nat.div_eq_of_lt hl])
  · refine ⟨fun t ht => ?_, fun h => by simp at h⟩
    have e : (keyTx b h (climbTo leaf s0 way), keyTx b h (nodeOf seed b h 0)) = t := by simpa using ht
    rw [← e]
    exact ⟨by simpa [unlikeP] using hu, hk⟩
theorem bothRow_get (g g' : Nat → Nat → List UInt8) : ∀ (n : Nat), bothRow g n = bothRow g' n → ∀ b, b < n → g b 0 = g' b 0 ∧ g b 1 = g' b 1
  | 0, _, b, hb => by omega
  | n + 1, e, b, hb => by
    rw [bothRow_succ, bothRow_succ] at e
    obtain ⟨e1, e2⟩ := List.append_inj e (by rw [bothRow_length, bothRow_length])
    by_cases h : b < n
    · exact bothRow_get g g' n e1 b h
    · obtain rfl : b = n := by omega
      simpa using e2
theorem shown_public {seed : ByteArray} {leaf : Int} {sum : IdK} {shown hidden : List IdK} {b : Nat} (e : bothRow (pubG sum shown hidden) b = bothRow (leafPub seed leaf) b) {k : Nat} (hk : k < b) : publicOf (shown.getD k []) = publicOf (secretOf seed leaf k (bitI sum k)) := by
  obtain ⟨e0, e1⟩ := bothRow_get _ _ _ e k hk
  have hr := bitI_range sum k
  by_cases h : bitI sum k = 0
  · rw [h]
    unfold pubG at e0
    rw [if_pos (by simpa using h)] at e0
    exact e0
  · have h1 : bitI sum k = 1 := by omega
    rw [h1]
    unfold pubG at e1
    rw [if_pos (by simpa using h1)] at e1
    exact e1
/-- A seed's own signature: all texts are alike. -/
theorem own_texts (seed : ByteArray) (b h leaf : Nat) (sum : IdK) (hl : leaf < 2 ^ h) (pubs : List IdK) (hp : pubs = bothRow (leafPub seed leaf) b) :
    (textsW seed b h leaf (leafOf seed leaf b) (wayOf seed b h leaf) pubs).find? unlikeP = none := by
  rw [List.find?_eq_none]
  have wl : (wayOf seed b h leaf).length = h := by simp [wayOf]
  have cur : ∀ k, k ≤ h → curW leaf (leafOf seed leaf b) (wayOf seed b h leaf) k = nodeOf seed b k (leaf / 2 ^ k) := by
    intro k hk
    have : (wayOf seed b h leaf).take k = wayOf seed b k leaf := by
      unfold wayOf
      rw [← List.map_take, List.take_range, Nat.min_eq_left hk]
    unfold curW
    rw [this, climb_way]
  intro t ht
  unfold textsW at ht
  simp only [List.cons_append, List.mem_cons, List.mem_append, List.mem_reverse, List.mem_map, List.mem_range, List.not_mem_nil, or_false] at ht
  rcases ht with rfl | ⟨k, hk, rfl⟩ | rfl
  · rw [climb_way, Nat.div_eq_of_lt hl]
    simp [unlikeP]
  · rw [wl] at hk
    unfold nodeP sideA sideB
    have e2 : leaf / 2 ^ (k + 1) = leaf / 2 ^ k / 2 := by rw [Nat.pow_succ, Nat.div_div_eq_div_mul]
    have ew : (wayOf seed b h leaf).getD k [] = nodeOf seed b k (beside (leaf / 2 ^ k)) := by simp [wayOf, hk]
    rw [e2, ew, cur k (by omega)]
    unfold beside
    generalize leaf / 2 ^ k = x
    by_cases ho : x % 2 = 1
    · rw [if_pos ho, if_pos ho, if_pos ho, show 2 * (x / 2) = x - 1 by omega, show x - 1 + 1 = x by omega]
      simp [unlikeP]
    · rw [if_neg ho, if_neg ho, if_neg ho, show 2 * (x / 2) = x by omega]
      simp [unlikeP]
  · rw [hp]
    simp [unlikeP]
end Go.Proofs.YtabkaflccaklhaaGreat
end
section
/- Rows of leaves and sums (witness.Row): how they lie, and how they are read. -/
namespace Go.Proofs.YtabkaflccaklhaaGreat
open Go.RowKit
open Go.Qk hiding rotr b4
set_option maxHeartbeats 1000000
set_option maxRecDepth 100000
def wr0 : WRow := (0, zero8 32)
def wrCells (x : WRow) : List Value := .int .i64 x.1 :: u8s x.2
def wrV (x : WRow) : Value := .agg (wrCells x).toArray
theorem wrCells_length {x : WRow} (h : x.2.length = 32) : (wrCells x).length = 33 := by simp [wrCells, u8s_length, h]
def WrRow (w : World) (A : Option Addr) (fs : List WRow) : Prop := fs.length ≤ 9223372036854775807 ∧ (fs ≠ [] → ∃ ad, A = some ad ∧ ∀ i, i < fs.length → ∀ j v, (wrCells (fs.getD i wr0))[j]? = some v → w.cell? ((ad.add (i * 33)).add j) = some v)
theorem WrRow.grow {w w1 : World} {A : Option Addr} {fs : List WRow} (h : WrRow w A fs) (hg : Grow w w1) : WrRow w1 A fs :=
  ⟨h.1, fun hne => by obtain ⟨ad, e, hc⟩ := h.2 hne; exact ⟨ad, e, fun i hi j v hj => grow_cell (hc i hi j v hj) hg⟩⟩
theorem WrRow.at_ {w : World} {A : Option Addr} {fs : List WRow} (h : WrRow w A fs) (i : Nat) (hi : i < fs.length) : ∃ ad, A = some ad ∧ ∀ j v, (wrCells (fs.getD i wr0))[j]? = some v → w.cell? ((ad.add (i * 33)).add j) = some v := by
  obtain ⟨ad, e, hc⟩ := h.2 (by intro e; subst e; simp at hi)
  exact ⟨ad, e, hc i hi⟩
theorem wrRow_nil (w : World) : WrRow w none [] := ⟨by simp, fun h => absurd rfl h⟩
theorem oneWr (x : WRow) : ∀ v ∈ wrCells x, v.oneCell' = true := by
  intro v hv
  rcases List.mem_cons.1 hv with rfl | h
  · rfl
  · exact u8s_one _ _ h
theorem infoWRow0 : (Tryz.prog.info? 116).map (·.size) = some 33 := by kernel_rfl
theorem infoWRow {x : WRow} (h : x.2.length = 32) : (Tryz.prog.info? 116).map (·.size) = some (wrCells x).length := by rw [wrCells_length h]; exact infoWRow0
theorem wr_mem {fs : List WRow} {i : Nat} (h : i < fs.length) : fs.getD i wr0 ∈ fs := by simp [h]
end Go.Proofs.YtabkaflccaklhaaGreat
end
section
/- witness.keyText, nodeText: contracts. -/
namespace Go.Proofs.YtabkaflccaklhaaGreat
open Go.RowKit
open Go.Qk hiding rotr b4
set_option maxHeartbeats 1000000
set_option maxRecDepth 100000
theorem wKeyText (b h : Nat) (root : IdK) (hr : root.length = 32) (hk : ktB b h = true) (w : World) :
    Calls Tryz.prog 106 #[.agg #[.int .i64 (b : Int), .int .i64 (h : Int)], idV root] w fun e w' => e = .returned (.string (bs (keyTx b h root))) ∧ Below w.heap.size w w' := by
  have HRT := hid hr
  have HTX := hid (key_small b h root hr)
  have HKT := hid (show keyTx b h root = textOf ⟨#[107, 101, 121]⟩ (keyParts b h root) from rfl)
  obtain ⟨b1, b2, b3, b4⟩ := kt_bounds hk
  have hb : b ≤ 256 := by omega
  have hh : h ≤ 10 := by omega
  have HE := hid (be1 h (by omega))
  have hu8 : IntKind.u8.wrap (h : Int) = (h : Int) := by show IntKind.u8.wrap (h : Int) = (h : Int); rw [show IntKind.u8.wrap (h : Int) = (h : Int) % 256 from rfl]; omega
  clear hr hk b1 b2 b3 b4
  go_enter Tryz.func106, Tryz.ntmps106
  have HB := hid (grow_refl w)
  apply wp_seq_k; intro _ _; apply wp_region_lit
  refine op_boxC (cs := #[.int .i64 (b : Int), .int .i64 (h : Int)]) rfl rfl rfl rfl ?_
  intro gp w1 hgl hgu hb hr
  have PL := hid (Nat.le_trans HB.out.size hgl)
  replace HB := hid (Grow.trans HB.out hb)
  have P := hid hr; have PU := hid hgu
  clear hr hgl hgu hb
  try simp only [Act.put, List.setIfInBounds_toArray, List.set_cons_zero, List.set_cons_succ]
  refine op_box (l := root) rfl rfl rfl ?_
  intro gx w2 hgl hgu hb hr
  have XL := hid (Nat.le_trans HB.out.size hgl)
  replace HB := hid (Grow.trans HB.out hb)
  replace P := hid (grow_block P.out hb)
  have X := hid hr; have XU := hid hgu
  clear hr hgl hgu hb
  try simp only [Act.put, List.setIfInBounds_toArray, List.set_cons_zero, List.set_cons_succ]
  go_wp2_with (first | (refine opG_loadB rfl rfl rfl P.out Tryz.underlying54 rfl rfl ?_) | (refine opG_load1 rfl rfl rfl P.out rfl Tryz.underlying3 rfl ?_) | (refine op_loadId rfl rfl rfl X.out (HRT.out) ?_) |  fail)
  refine (number2 b (by omega) _).mono ?_
  rintro e w3 ⟨rfl, hb⟩
  replace HB := hid (Grow.trans HB.out hb)
  replace P := hid (grow_block P.out hb)
  replace X := hid (grow_block X.out hb)
  clear hb
  go_wp2_with (first | (refine opG_loadB rfl rfl rfl P.out Tryz.underlying54 rfl rfl ?_) | (refine opG_load1 rfl rfl rfl P.out rfl Tryz.underlying3 rfl ?_) | (refine op_loadId rfl rfl rfl X.out (HRT.out) ?_) |  fail)
  (refine' wp_region_head 15 0 [_, _, _, _, _, _, _, _, _, _, _, _, _, _, _] rfl (by kernel_rfl) (by kernel_rfl) ?hreg1; case' hreg1 => simp only [List.take_succ_cons, List.take_zero, List.zip_cons_cons, List.zip_nil_right, List.drop_succ_cons, List.drop_zero, List.drop_nil])
  (refine' head_val ?dw2 ?de2 ?dr2 ?dh2; (case' dw2 => rfl); (case' de2 => (first | exact fun _ _ _ => trivial | (intro t ht w; cases ht; simp [upE]))); (case' dr2 => (intro w' hw' _; go_simp; with_reducible rfl)); (case' dh2 => (try simp only [Act.put, List.setIfInBounds_toArray, List.set_cons_zero, List.set_cons_succ]))); (refine' head_val ?dw3 ?de3 ?dr3 ?dh3; (case' dw3 => rfl); (case' de3 => (first | exact fun _ _ _ => trivial | (intro t ht w; cases ht; simp [upE]))); (case' dr3 => (intro w' hw' _; go_simp; with_reducible rfl)); (case' dh3 => (try simp only [Act.put, List.setIfInBounds_toArray, List.set_cons_zero, List.set_cons_succ])))
  (refine' head_load1 rfl ?_ rfl rfl P.out rfl Tryz.underlying3 rfl ?_; (first | exact fun _ _ _ => trivial | (intro t ht w; cases ht; simp [upE])); try simp only [Act.put, List.setIfInBounds_toArray, List.set_cons_zero, List.set_cons_succ])
  (refine' head_val (v := .int .u8 (h : Int)) ?dw4 ?de4 ?dr4 ?dh4; (case' dw4 => rfl); (case' de4 => (first | exact fun _ _ _ => trivial | (intro t ht w; cases ht; simp [upE]))); (case' dr4 => (intro w' hw' hE; (go_simp; try rw [hu8]))); (case' dh4 => (try simp only [Act.put, List.setIfInBounds_toArray, List.set_cons_zero, List.set_cons_succ])))
  (refine' head_row [.int .u8 (h : Int)] 1 5 ?_ ?_ ?_; (· rfl); (· intro w; first | (go_simp; done) | (go_simp; first | with_reducible rfl | rfl)); intro g21; simp only [Act.put, List.setIfInBounds_toArray, List.set_cons_zero, List.set_cons_succ])
  (refine' head_conv (v := .string (bs (be 1 h))) ?dw5 ?de5 rfl ?dx5 ?dr5 ?dh5; (case' dw5 => rfl); (case' de5 => (first | exact fun _ _ _ => trivial | (intro t ht w; cases ht; simp [upE]))); (case' dx5 => rfl); (case' dr5 => (intro w' hw' hE; exact conv1 (hE 21 (by decide)) (by omega))); (case' dh5 => (try simp only [Act.put, List.setIfInBounds_toArray, List.set_cons_zero, List.set_cons_succ])))
  (refine' head_val ?dw6 ?de6 ?dr6 ?dh6; (case' dw6 => rfl); (case' de6 => (first | exact fun _ _ _ => trivial | (intro t ht w; cases ht; simp [upE]))); (case' dr6 => (intro w' hw' _; go_simp; with_reducible rfl)); (case' dh6 => (try simp only [Act.put, List.setIfInBounds_toArray, List.set_cons_zero, List.set_cons_succ])))
  (refine' head_conv (v := .string (bs root)) ?dw7 ?de7 rfl ?dx7 ?dr7 ?dh7; (case' dw7 => rfl); (case' de7 => (first | exact fun _ _ _ => trivial | (intro t ht w; cases ht; simp [upE]))); (case' dx7 => rfl); (case' dr7 => (intro w' hw' hE; exact run_strId (grow_block X.out hw') HRT.out)); (case' dh7 => (try simp only [Act.put, List.setIfInBounds_toArray, List.set_cons_zero, List.set_cons_succ])))
  (refine' head_row [.string (bs (be 2 b)), .string (bs (be 1 h)), .string (bs root)] 3 9 ?_ ?_ ?_; (· rfl); (· intro w; first | (go_simp; done) | (go_simp; first | with_reducible rfl | rfl)); intro g25; simp only [Act.put, List.setIfInBounds_toArray, List.set_cons_zero, List.set_cons_succ])
  (refine' head_call ?cw8 ?ce8 ?cr8 ?cc8 ?ch8; (case' cw8 => rfl); (case' ce8 => (first | exact fun _ _ _ => trivial | (intro t ht w; cases ht; simp [upE]))); (case' cr8 => (intro w'; go_simp; first | exact ⟨rfl, rfl⟩ | with_reducible rfl)); (case' cc8 => (intro w' hw' hE; exact tagText ⟨#[107, 101, 121]⟩ _ _ _ (keyParts b h root) w' (strRow_cells (row_at (hE 25 (by decide))) (by simp [keyParts])) rfl (by decide) HTX.out)); (case' ch8 => (try simp only [Act.put, List.setIfInBounds_toArray, List.set_cons_zero, List.set_cons_succ])))
  (refine' head_val ?dw9 ?de9 ?dr9 ?dh9; (case' dw9 => rfl); (case' de9 => (first | exact fun _ _ _ => trivial | (intro t ht w; cases ht; simp [upE]))); (case' dr9 => (intro w' hw' _; go_simp; with_reducible rfl)); (case' dh9 => (try simp only [Act.put, List.setIfInBounds_toArray, List.set_cons_zero, List.set_cons_succ]))); (refine' head_val ?dw10 ?de10 ?dr10 ?dh10; (case' dw10 => rfl); (case' de10 => (first | exact fun _ _ _ => trivial | (intro t ht w; cases ht; simp [upE]))); (case' dr10 => (intro w' hw' _; go_simp; with_reducible rfl)); (case' dh10 => (try simp only [Act.put, List.setIfInBounds_toArray, List.set_cons_zero, List.set_cons_succ]))); (refine' head_val ?dw11 ?de11 ?dr11 ?dh11; (case' dw11 => rfl); (case' de11 => (first | exact fun _ _ _ => trivial | (intro t ht w; cases ht; simp [upE]))); (case' dr11 => (intro w' hw' _; go_simp; with_reducible rfl)); (case' dh11 => (try simp only [Act.put, List.setIfInBounds_toArray, List.set_cons_zero, List.set_cons_succ]))); (refine' head_val ?dw12 ?de12 ?dr12 ?dh12; (case' dw12 => rfl); (case' de12 => (first | exact fun _ _ _ => trivial | (intro t ht w; cases ht; simp [upE]))); (case' dr12 => (intro w' hw' _; go_simp; with_reducible rfl)); (case' dh12 => (try simp only [Act.put, List.setIfInBounds_toArray, List.set_cons_zero, List.set_cons_succ]))); (refine' head_val ?dw13 ?de13 ?dr13 ?dh13; (case' dw13 => rfl); (case' de13 => (first | exact fun _ _ _ => trivial | (intro t ht w; cases ht; simp [upE]))); (case' dr13 => (intro w' hw' _; go_simp; with_reducible rfl)); (case' dh13 => (try simp only [Act.put, List.setIfInBounds_toArray, List.set_cons_zero, List.set_cons_succ])))
  refine head_nil ?_
  intro w4 hb _
  replace HB := hid (Grow.trans HB.out hb)
  replace P := hid (grow_block P.out hb)
  replace X := hid (grow_block X.out hb)
  clear hb
  go_wp2_with fail
  go_ret
  exact ⟨by rw [HKT.out]; rfl, HB.out⟩
theorem wNodeText (a b : IdK) (ha : a.length = 32) (hb : b.length = 32) (w : World) :
    Calls Tryz.prog 103 #[idV a, idV b] w fun e w' => e = .returned (.string (bs (nodeTx a b))) ∧ Below w.heap.size w w' := by
  have HA := hid ha
  have HB2 := hid hb
  have HTX := hid (textOf_two nodeName a b (by decide) (by rw [ha]; omega) (by rw [hb]; omega))
  have HN := hid (show nodeTx a b = textOf nodeName [bs a, bs b] from rfl)
  clear ha hb
  go_enter Tryz.func103, Tryz.ntmps103
  have HB := hid (grow_refl w)
  apply wp_seq_k; intro _ _; apply wp_region_lit
  refine op_box (l := a) rfl rfl rfl ?_
  intro gx w1 hgl hgu hb hr
  have XL := hid (Nat.le_trans HB.out.size hgl)
  replace HB := hid (Grow.trans HB.out hb)
  have X := hid hr; have XU := hid hgu
  clear hr hgl hgu hb
  try simp only [Act.put, List.setIfInBounds_toArray, List.set_cons_zero, List.set_cons_succ]
  refine op_box (l := b) rfl rfl rfl ?_
  intro gy w2 hgl hgu hb hr
  have YL := hid (Nat.le_trans HB.out.size hgl)
  replace HB := hid (Grow.trans HB.out hb)
  replace X := hid (grow_block X.out hb)
  have Y := hid hr; have YU := hid hgu
  clear hr hgl hgu hb
  try simp only [Act.put, List.setIfInBounds_toArray, List.set_cons_zero, List.set_cons_succ]
  go_wp2_with fail
  (refine' wp_region_head 11 0 [_, _, _, _, _, _, _, _, _, _, _] rfl (by kernel_rfl) (by kernel_rfl) ?hreg14; case' hreg14 => simp only [List.take_succ_cons, List.take_zero, List.zip_cons_cons, List.zip_nil_right, List.drop_succ_cons, List.drop_zero, List.drop_nil])
  (refine' head_val ?dw15 ?de15 ?dr15 ?dh15; (case' dw15 => rfl); (case' de15 => (first | exact fun _ _ _ => trivial | (intro t ht w; cases ht; simp [upE]))); (case' dr15 => (intro w' hw' _; go_simp; with_reducible rfl)); (case' dh15 => (try simp only [Act.put, List.setIfInBounds_toArray, List.set_cons_zero, List.set_cons_succ])))
  (refine' head_conv (v := .string (bs a)) ?dw16 ?de16 rfl ?dx16 ?dr16 ?dh16; (case' dw16 => rfl); (case' de16 => (first | exact fun _ _ _ => trivial | (intro t ht w; cases ht; simp [upE]))); (case' dx16 => rfl); (case' dr16 => (intro w' hw' hE; exact run_strId (grow_block X.out hw') HA.out)); (case' dh16 => (try simp only [Act.put, List.setIfInBounds_toArray, List.set_cons_zero, List.set_cons_succ])))
  (refine' head_val ?dw17 ?de17 ?dr17 ?dh17; (case' dw17 => rfl); (case' de17 => (first | exact fun _ _ _ => trivial | (intro t ht w; cases ht; simp [upE]))); (case' dr17 => (intro w' hw' _; go_simp; with_reducible rfl)); (case' dh17 => (try simp only [Act.put, List.setIfInBounds_toArray, List.set_cons_zero, List.set_cons_succ])))
  (refine' head_conv (v := .string (bs b)) ?dw18 ?de18 rfl ?dx18 ?dr18 ?dh18; (case' dw18 => rfl); (case' de18 => (first | exact fun _ _ _ => trivial | (intro t ht w; cases ht; simp [upE]))); (case' dx18 => rfl); (case' dr18 => (intro w' hw' hE; exact run_strId (grow_block Y.out hw') HB2.out)); (case' dh18 => (try simp only [Act.put, List.setIfInBounds_toArray, List.set_cons_zero, List.set_cons_succ])))
  (refine' head_row [.string (bs a), .string (bs b)] 2 9 ?_ ?_ ?_; (· rfl); (· intro w; first | (go_simp; done) | (go_simp; first | with_reducible rfl | rfl)); intro g12; simp only [Act.put, List.setIfInBounds_toArray, List.set_cons_zero, List.set_cons_succ])
  (refine' head_call ?cw19 ?ce19 ?cr19 ?cc19 ?ch19; (case' cw19 => rfl); (case' ce19 => (first | exact fun _ _ _ => trivial | (intro t ht w; cases ht; simp [upE]))); (case' cr19 => (intro w'; go_simp; first | exact ⟨rfl, rfl⟩ | with_reducible rfl)); (case' cc19 => (intro w' hw' hE; exact tagText nodeName _ _ _ [bs a, bs b] w' (strRow_cells (row_at (hE 12 (by decide))) (by simp)) rfl (by decide) HTX.out)); (case' ch19 => (try simp only [Act.put, List.setIfInBounds_toArray, List.set_cons_zero, List.set_cons_succ])))
  (refine' head_val ?dw20 ?de20 ?dr20 ?dh20; (case' dw20 => rfl); (case' de20 => (first | exact fun _ _ _ => trivial | (intro t ht w; cases ht; simp [upE]))); (case' dr20 => (intro w' hw' _; go_simp; with_reducible rfl)); (case' dh20 => (try simp only [Act.put, List.setIfInBounds_toArray, List.set_cons_zero, List.set_cons_succ]))); (refine' head_val ?dw21 ?de21 ?dr21 ?dh21; (case' dw21 => rfl); (case' de21 => (first | exact fun _ _ _ => trivial | (intro t ht w; cases ht; simp [upE]))); (case' dr21 => (intro w' hw' _; go_simp; with_reducible rfl)); (case' dh21 => (try simp only [Act.put, List.setIfInBounds_toArray, List.set_cons_zero, List.set_cons_succ]))); (refine' head_val ?dw22 ?de22 ?dr22 ?dh22; (case' dw22 => rfl); (case' de22 => (first | exact fun _ _ _ => trivial | (intro t ht w; cases ht; simp [upE]))); (case' dr22 => (intro w' hw' _; go_simp; with_reducible rfl)); (case' dh22 => (try simp only [Act.put, List.setIfInBounds_toArray, List.set_cons_zero, List.set_cons_succ]))); (refine' head_val ?dw23 ?de23 ?dr23 ?dh23; (case' dw23 => rfl); (case' de23 => (first | exact fun _ _ _ => trivial | (intro t ht w; cases ht; simp [upE]))); (case' dr23 => (intro w' hw' _; go_simp; with_reducible rfl)); (case' dh23 => (try simp only [Act.put, List.setIfInBounds_toArray, List.set_cons_zero, List.set_cons_succ]))); (refine' head_val ?dw24 ?de24 ?dr24 ?dh24; (case' dw24 => rfl); (case' de24 => (first | exact fun _ _ _ => trivial | (intro t ht w; cases ht; simp [upE]))); (case' dr24 => (intro w' hw' _; go_simp; with_reducible rfl)); (case' dh24 => (try simp only [Act.put, List.setIfInBounds_toArray, List.set_cons_zero, List.set_cons_succ])))
  refine head_nil ?_
  intro w3 hb _
  replace HB := hid (Grow.trans HB.out hb)
  replace X := hid (grow_block X.out hb)
  replace Y := hid (grow_block Y.out hb)
  clear hb
  go_wp2_with fail
  go_ret
  exact ⟨by rw [HN.out]; rfl, HB.out⟩
end Go.Proofs.YtabkaflccaklhaaGreat
end
section
/- witness.leafText, publics: contracts. -/
namespace Go.Proofs.YtabkaflccaklhaaGreat
open Go.RowKit
open Go.Qk hiding rotr b4
set_option maxHeartbeats 1000000
set_option maxRecDepth 100000
theorem wLeafText (A : Option Addr) (n c : Nat) (l : List IdK) (w : World) (hx : IdRow w A l) (hn : l.length = n) (hl : ∀ s ∈ l, s.length = 32) (hmax : l.length ≤ 1000000) :
    Calls Tryz.prog 107 #[.slice A n c] w fun e w' => e = .returned (.string (bs (leafTx l))) ∧ Below w.heap.size w w' := by
  subst hn
  have HX := hid hx
  have HL := hid hl
  have HLT := hid (show leafTx l = textOf leafName [bs l.flatten] from rfl)
  clear hx hl
  go_enter Tryz.func107, Tryz.ntmps107
  have HB := hid (grow_refl w)
  go_wp2_with fail
  go_loopg [3, 10] (l.length + 1) (fun q v i wr => ∃ k : Nat, k ≤ l.length ∧ q = l.length + 1 - k ∧ i = .int .i64 k ∧ Hid (Buf 5 w.heap.size wr v (l.take k).flatten) ∧ Hid (Grow w wr))
  case atStart => exact ⟨0, by omega, rfl, rfl, hid (World.ownsRow_nil _ _ _ _), HB⟩
  case round =>
    clear HB
    obtain ⟨k, hk, hq, rfl, HO, HB⟩ := hrel
    by_cases hlt : k < l.length
    · have k0 : (0 : Int) ≤ (k : Int) := by omega
      have k1 : (k : Int) < (l.length : Int) := by omega
      obtain ⟨ad, rfl, hc⟩ := (HX.out.grow HB.out).at_ k hlt
      have HC := hid hc
      have H32 := hid (getD_mem_len HL.out hlt)
      have hs1 : (l.take k).flatten.length = 32 * k := flatten_take_len l HL.out k hk
      have HN := hid (flatten_take_succ l k hlt)
      clear hc
      generalize l.getD k [] = s at *
      go_wp2_with (first | (refine op_loadAt (l := s) rfl rfl rfl HC.out H32.out ?_) | (refine op_allocstore (l := s) rfl rfl rfl rfl rfl rfl (fun _ => rfl) ⟨fun _ => rfl, H32.out⟩ ?_))
      intro g7 w1 hgl hgu hb hr
      have HO1 := hid (HO.out.grow hb)
      have HG1 := hid (Grow.trans HB.out hb)
      have HR1 := hid hr
      clear hgl hgu hb hr HC
      go_wp2_with (at_builtin; refine app_bytes (w0 := w) (B := w.heap.size) (.tmp 14) (.tmp 15) 85 5 _ (l.take k).flatten s ⟨g7, 0, none⟩ 32 32 rfl rfl Tryz.underlying85 infoU8 rfl rfl H32.out ?hm HO1.out HG1.out HG1.out.size ?hl ?_)
      case hm => intro i hi; rw [addr_add]; exact cell_u8 HR1.out (grow_refl _) i hi
      case hl => have := H32.out; omega
      intro v2 w2 hown hb2 hs2
      rw [← HN.out] at hown
      have HO2 := hid hown
      have HG2 := hid hb2
      clear hown hb2 hs2
      go_wp2
      go_roundg (l.length + 1 - (k + 1))
      case rel => exact ⟨k + 1, by omega, rfl, by go_num, HO2, HG2⟩
      case measure => omega
    · obtain rfl : k = l.length := by omega
      rw [List.take_length] at HO
      have hcv := buf_str (P := Tryz.prog) 85 5 9 Tryz.underlying85 Tryz.underlying5 Tryz.underlying9 _ _ HO.out
      have hfl : l.flatten.length ≤ 100000000 := by have := flatten_take_len l HL.out l.length (Nat.le_refl _); rw [List.take_length] at this; omega
      have HTX := hid (textOf_one leafName l.flatten (by decide) hfl)
      go_wp2_with fail
      refine (tagText leafName _ _ _ [bs l.flatten] _ (strRow_alloc wr [bs l.flatten] _ (by simp)) rfl (by decide) HTX.out).mono ?_
      rintro e w4 ⟨rfl, hb⟩
      replace hb := Grow.trans (grow_alloc _ _) hb
      have HB4 := hid (Grow.trans HB.out hb)
      clear hb hcv
      go_wp2_with fail
      go_ret
      exact ⟨by rw [HLT.out]; rfl, HB4.out⟩
def pairTo (g : Nat → Nat → IdK) (k j : Nat) : List IdK := [g k 0, g k 1].take j
theorem pairTo_succ (g : Nat → Nat → IdK) (k j : Nat) (h : j < 2) : pairTo g k (j + 1) = pairTo g k j ++ [g k j] := by
  match j, h with
  | 0, _ => rfl
  | 1, _ => rfl
theorem pairTo_length (g : Nat → Nat → IdK) (k j : Nat) (h : j ≤ 2) : (pairTo g k j).length = j := by simp [pairTo]; omega
theorem wPublics (seed : ByteArray) (hs : seed.size ≤ 1000000) (b h : Nat) (hb : b ≤ 256) (leaf : Int) (hl : leaf ≤ 9223372036854775807) (w : World) :
    Calls Tryz.prog 108 #[.agg #[.int .i64 (b : Int), .int .i64 (h : Int)], .string seed, .int .i64 leaf] w (RetIds w.heap.size w (bothRow (leafPub seed leaf) b)) := by
  have HS := hid hs
  have HL := hid hl
  have LP := hid (leafPub_length seed leaf)
  have HSE := hid (fun (k j : Nat) w => lamSecret seed leaf (k : Int) (j : Int) hs hl w)
  have HPU := hid (fun (k j : Nat) w => lamPublic (secretOf seed leaf (k : Int) (j : Int)) (secretOf_length _ _ _ _) w)
  have HDE := hid (fun (k j : Nat) => show publicOf (secretOf seed leaf (k : Int) (j : Int)) = leafPub seed leaf k j from rfl)
  have LSE := hid (fun (k j : Nat) => secretOf_length seed leaf (k : Int) (j : Int))
  generalize leafPub seed leaf = g at *
  have hb1 : (b : Int) ≤ 256 := by omega
  clear hs hl
  go_enter Tryz.func108, Tryz.ntmps108
  have HB := hid (grow_refl w)
  apply wp_seq_k; intro _ _; apply wp_region_lit
  refine op_boxC (cs := #[.int .i64 (b : Int), .int .i64 (h : Int)]) rfl rfl rfl rfl ?_
  intro gp w1 hgl hgu hb hr
  have PL := hid (Nat.le_trans HB.out.size hgl)
  replace HB := hid (Grow.trans HB.out hb)
  have P := hid hr; have PU := hid hgu
  clear hr hgl hgu hb
  try simp only [Act.put, List.setIfInBounds_toArray, List.set_cons_zero, List.set_cons_succ]
  go_wp2_with (first | (refine opG_loadB rfl rfl rfl P.out Tryz.underlying54 rfl rfl ?_) | (refine opG_load1 rfl rfl rfl P.out rfl Tryz.underlying3 rfl ?_) |  fail)
  clear P PU PL
  go_loopg [7, 12] (b + 1) (fun z v i wr => ∃ k : Nat, k ≤ b ∧ z = b + 1 - k ∧ i = .int .i64 k ∧ Hid (OwnIds 42 w.heap.size wr v (bothRow g k)) ∧ Hid (Grow w wr))
  case atStart => exact ⟨0, by omega, rfl, rfl, hid ⟨World.ownsRow_nil _ _ _ _, fun _ h => by cases h⟩, HB⟩
  case round =>
    clear HB
    obtain ⟨k, hk, hq, rfl, HO, HB⟩ := hrel
    by_cases hlt : k < b
    · have k0 : (0 : Int) ≤ (k : Int) := by omega
      have k1 : (k : Int) < (b : Int) := by omega
      have HLN := hid (bothRow_length g k)
      have HBS := hid (bothRow_succ g k)
      go_wp2_with fail
      go_loopg [7, 15] 3 (fun z v i wr => ∃ j : Nat, j ≤ 2 ∧ z = 3 - j ∧ i = .int .i64 j ∧ Hid (OwnIds 42 w.heap.size wr v (bothRow g k ++ pairTo g k j)) ∧ Hid (Grow w wr))
      case atStart => exact ⟨0, by omega, rfl, rfl, hid (by rw [show pairTo g k 0 = [] from rfl, List.append_nil]; exact HO.out), HB⟩
      case round =>
        clear HO HB
        obtain ⟨j, hj, hz, rfl, HO, HB⟩ := hrel
        by_cases hjl : j < 2
        · have j0 : (0 : Int) ≤ (j : Int) := by omega
          have j1 : (j : Int) < 2 := by omega
          have HPS := hid (pairTo_succ g k j hjl)
          have HPL := hid (pairTo_length g k j (by omega))
          have LG := hid (LP.out k j)
          go_wp2_with fail
          refine (HSE.out k j _).mono ?_
          rintro e w3 ⟨rfl, hb⟩
          replace HO := hid (HO.out.grow hb)
          replace HB := hid (Grow.trans HB.out hb)
          clear hb
          go_wp2_with fail
          refine (HPU.out k j _).mono ?_
          rintro e w4 ⟨rfl, hb⟩
          rw [HDE.out]
          replace HO := hid (HO.out.grow hb)
          replace HB := hid (Grow.trans HB.out hb)
          clear hb
          generalize g k j = x at *
          go_wp2_with (first | (refine op_appIds1 (w0 := w) (l1 := x) rfl rfl rfl rfl rfl rfl (fun _ => rfl) (fun _ => rfl) LG.out HO.out HB.out HB.out.size (by rw [List.length_append, HLN.out, HPL.out]; omega) ?_) | fail)
          intro x5 v5 w9 ho hbl _
          rw [← HPS.out] at ho
          have HO' := hid ho
          have HG' := hid hbl
          clear ho hbl
          go_wp2_with fail
          go_roundg (3 - (j + 1))
          case rel => exact ⟨j + 1, by omega, rfl, by go_num, HO', HG'⟩
          case measure => omega
        · obtain rfl : j = 2 := by omega
          rw [show pairTo g k 2 = [g k 0, g k 1] from rfl, ← HBS.out] at HO
          go_wp2_with fail
          go_roundg (b + 1 - (k + 1))
          case rel => exact ⟨k + 1, by omega, rfl, by go_num, HO, HB⟩
          case measure => omega
    · obtain rfl : k = b := by omega
      go_wp2_with fail
      go_ret
      exact ⟨_, rfl, HO.out, HB.out⟩
end Go.Proofs.YtabkaflccaklhaaGreat
end
section
/- witness.grow: contract. -/
namespace Go.Proofs.YtabkaflccaklhaaGreat
open Go.RowKit
open Go.Qk hiding rotr b4
set_option maxHeartbeats 1000000
set_option maxRecDepth 100000
theorem list_succ {n : Nat} {l : List UInt8} (h : l.length = n + 1) : ∃ b m, l = b :: m ∧ m.length = n := by
  cases l with
  | nil => simp at h
  | cons b m => exact ⟨b, m, rfl, by simpa using h⟩
theorem list8 {n : Nat} {l : List UInt8} (h : l.length = n + 8) : ∃ b0 b1 b2 b3 b4 b5 b6 b7 m, l = b0 :: b1 :: b2 :: b3 :: b4 :: b5 :: b6 :: b7 :: m ∧ m.length = n := by
  obtain ⟨b0, l0, rfl, h0⟩ := list_succ (n := n + 7) h
  obtain ⟨b1, l1, rfl, h1⟩ := list_succ (n := n + 6) h0
  obtain ⟨b2, l2, rfl, h2⟩ := list_succ (n := n + 5) h1
  obtain ⟨b3, l3, rfl, h3⟩ := list_succ (n := n + 4) h2
  obtain ⟨b4, l4, rfl, h4⟩ := list_succ (n := n + 3) h3
  obtain ⟨b5, l5, rfl, h5⟩ := list_succ (n := n + 2) h4
  obtain ⟨b6, l6, rfl, h6⟩ := list_succ (n := n + 1) h5
  obtain ⟨b7, l7, rfl, h7⟩ := list_succ (n := n) h6
  exact ⟨b0, b1, b2, b3, b4, b5, b6, b7, l7, rfl, h7⟩
/-- A list of 32, byte by byte. -/
theorem list32 {l : List UInt8} (h : l.length = 32) : ∃ a0 a1 a2 a3 a4 a5 a6 a7 b0 b1 b2 b3 b4 b5 b6 b7 c0 c1 c2 c3 c4 c5 c6 c7 d0 d1 d2 d3 d4 d5 d6 d7,
    l = [a0, a1, a2, a3, a4, a5, a6, a7, b0, b1, b2, b3, b4, b5, b6, b7, c0, c1, c2, c3, c4, c5, c6, c7, d0, d1, d2, d3, d4, d5, d6, d7] := by
  obtain ⟨a0, a1, a2, a3, a4, a5, a6, a7, l1, rfl, h1⟩ := list8 (n := 24) h
  obtain ⟨b0, b1, b2, b3, b4, b5, b6, b7, l2, rfl, h2⟩ := list8 (n := 16) h1
  obtain ⟨c0, c1, c2, c3, c4, c5, c6, c7, l3, rfl, h3⟩ := list8 (n := 8) h2
  obtain ⟨d0, d1, d2, d3, d4, d5, d6, d7, l4, rfl, h4⟩ := list8 (n := 0) h3
  obtain rfl : l4 = [] := List.eq_nil_of_length_eq_zero h4
  exact ⟨a0, a1, a2, a3, a4, a5, a6, a7, b0, b1, b2, b3, b4, b5, b6, b7, c0, c1, c2, c3, c4, c5, c6, c7, d0, d1, d2, d3, d4, d5, d6, d7, rfl⟩
/-- A seed's tree: its rows, its root. -/
def ownC (v : Value) (root : IdK) : List Value := v :: u8s root
theorem run_buildOwn (A : Option Addr) (m c : Nat) (root : IdK) (hl : root.length = 32) (w : World) :
    (Instr.build 154 #[(0, .slice A m c), (1, idV root)]).run Tryz.prog w = .ok (.agg (ownC (.slice A m c) root).toArray) w := by
  obtain ⟨a0, a1, a2, a3, a4, a5, a6, a7, b0, b1, b2, b3, b4, b5, b6, b7, c0, c1, c2, c3, c4, c5, c6, c7, d0, d1, d2, d3, d4, d5, d6, d7, rfl⟩ := list32 hl
  exact run_build w _ _ _ (by kernel_rfl)
theorem ownC_length {v : Value} {root : IdK} (hl : root.length = 32) : (ownC v root).length = 33 := by simp [ownC, u8s_length, hl]
theorem ownC_one (A : Option Addr) (m c : Nat) (root : IdK) : ∀ u ∈ ownC (.slice A m c) root, u.oneCell' = true := by
  intro u hu
  rcases List.mem_cons.1 hu with rfl | h
  · rfl
  · exact u8s_one _ _ h
theorem infoOwn : (Tryz.prog.info? 154).map (·.size) = some 33 := by kernel_rfl
theorem wGrow (seed : ByteArray) (hs : seed.size ≤ 1000000) (b h : Nat) (hk : ktB b h = true) (w : World) :
    Calls Tryz.prog 100 #[.agg #[.int .i64 (b : Int), .int .i64 (h : Int)], .string seed] w fun e w' => ∃ v, e = .returned (.agg (ownC v (nodeOf seed b h 0)).toArray) ∧ OwnRows w.heap.size w' v (foldRows h (leafRow seed b (2 ^ h))) ∧ Below w.heap.size w w' := by
  obtain ⟨b1, b2, b3, b4⟩ := kt_bounds hk
  have hpw : 2 ^ h ≤ 2 ^ 10 := Nat.pow_le_pow_right (by omega) (by omega)
  obtain ⟨n, hn⟩ : ∃ n, 2 ^ h = n := ⟨_, rfl⟩
  rw [hn] at hpw
  have HLV := hid (fun w => ktLeaves b h n (by rw [hk, ← hn]; simp) w)
  have HLF := hid (fun (i : Nat) (hi : i < n) w => lamLeaf seed i b hs (by omega) w)
  have hr : rightB (b : Int) = true := by simp [ktB] at hk; exact hk.1
  have HR1 := hid (fun (i : Nat) => show leafRes seed (i : Int) (b : Int) = leafOf seed i b by unfold leafRes; rw [if_pos (by rw [hr]; simp)]; rfl)
  have HR2 := hid (fun (i : Nat) => show leafErr (i : Int) (b : Int) = 0 by unfold leafErr; rw [if_pos (by rw [hr]; simp)])
  have HFD := hid (fun A c w (hx : IdRow w A (leafRow seed b n)) => ktFold A n c h (leafRow seed b n) w hx (leafRow_length _ _ _) hn.symm (by omega) (leafRow_32 _ _ _))
  have HTN := hid (foldTop_node seed b h)
  rw [hn] at HTN ⊢
  rw [HTN.out] at HFD
  have LN := hid (nodeOf_length seed b h 0)
  generalize nodeOf seed b h 0 = root at *
  have n1 : (n : Int) ≤ 1024 := by omega
  clear hk b1 b2 b3 b4 hn hr hpw HTN
  go_enter Tryz.func100, Tryz.ntmps100
  have HB := hid (grow_refl w)
  apply wp_seq_k; intro _ _; apply wp_region_lit
  refine op_boxC (cs := #[.int .i64 (b : Int), .int .i64 (h : Int)]) rfl rfl rfl rfl ?_
  intro gp w1 hgl hgu hb hr
  have PL := hid (Nat.le_trans HB.out.size hgl)
  replace HB := hid (Grow.trans HB.out hb)
  have P := hid hr; have PU := hid hgu
  clear hr hgl hgu hb
  try simp only [Act.put, List.setIfInBounds_toArray, List.set_cons_zero, List.set_cons_succ]
  refine op_allocC (z := undef) (cs := (ownC (.slice none 0 0) (List.replicate 32 0)).toArray) rfl rfl (fun w => by kernel_rfl) ?_
  intro gr wr hgl hgu hb hr
  have HRL := hid (Nat.le_trans HB.out.size hgl)
  replace HB := hid (Grow.trans HB.out hb)
  replace P := hid (grow_block P.out hb)
  clear hb
  have HR := hid hr
  clear hr hgl hgu
  try simp only [Act.put, List.setIfInBounds_toArray, List.set_cons_zero, List.set_cons_succ]
  go_wp2_with (first | (refine opG_loadB rfl rfl rfl P.out Tryz.underlying54 rfl rfl ?_) | (refine opG_load1 rfl rfl rfl P.out rfl Tryz.underlying3 rfl ?_) |  fail)
  refine (HLV.out _).mono ?_
  rintro e w2 ⟨rfl, hb⟩
  replace HB := hid (Grow.trans HB.out hb)
  replace P := hid (grow_block P.out hb)
  replace HR := hid (grow_block HR.out hb)
  clear hb
  have HRX := hid (show gr < w2.heap.size from blk_lt HR.out)
  go_wp2_with (refine op_makeIdsN (n := n) (fun i => leafOf seed i b) rfl rfl rfl rfl (by omega) ?_)
  intro g6 w6 hgl hgu hb hr
  have G6L := hid hgl
  have X6 := hid hr
  have HG := hid hb
  have HR6 := hid (Nat.le_trans HB.out.size hgl)
  clear hgl hgu hb hr
  go_wp2_with fail
  go_loopg [14] (n + 1) (fun z i wr => ∃ j : Nat, j ≤ n ∧ z = n + 1 - j ∧ i = .int .i64 (j : Int) ∧ Hid (wr.heap[g6]? = some (.cells (idCells (parRow (fun i => leafOf seed i b) n j)).toArray 42 (0, 0))) ∧ Hid (Grow w2 wr))
  case atStart => exact ⟨0, by omega, rfl, rfl, X6, HG⟩
  case round =>
    clear X6 HG
    obtain ⟨j, hj, hz, rfl, X6, HG⟩ := hrel
    have P0 := P
    replace P0 := hid (grow_block P0.out HG.out)
    by_cases hlt : j < n
    · have j0 : (0 : Int) ≤ (j : Int) := by omega
      have j1 : (j : Int) < (n : Int) := by omega
      have HPS := hid (parRow_set (fun i => leafOf seed i b) n j hlt)
      have LL := hid (leafOf_length seed j b)
      go_wp2_with (first | (refine opG_loadB rfl rfl rfl P0.out Tryz.underlying54 rfl rfl ?_) | (refine opG_load1 rfl rfl rfl P0.out rfl Tryz.underlying3 rfl ?_) |  fail)
      refine (HLF.out j hlt _).mono ?_
      rintro e w3 ⟨rfl, hb⟩
      replace P0 := hid (grow_block P0.out hb)
      replace X6 := hid (grow_block X6.out hb)
      replace HG := hid (Grow.trans HG.out hb)
      clear hb
      rw [HR1.out, HR2.out]
      go_wp2_with (refine op_storeIds (i := j) (xs := parRow (fun i => leafOf seed i b) n j) (l := leafOf seed j b) rfl rfl rfl rfl (by first | rfl | exact addr_add _ _) rfl LL.out X6.out (parRow_32 _ (fun _ => leafOf_length _ _ _) _ _) (by rw [parRow_length]; exact hlt) ?_)
      intro w8 hz8 _ hbl
      have X6' := hid hz8
      have HG' := hid (hbl _ _ HG.out G6L.out)
      rw [HPS.out] at X6'
      clear hz8 hbl
      go_wp2_with fail
      go_roundg (n + 1 - (j + 1))
      case rel => exact ⟨j + 1, by omega, rfl, by go_num, X6', HG'⟩
      case measure => omega
    · obtain rfl : j = n := by omega
      have HID := hid ((blk_own (B := 0) X6.out (Nat.zero_le _) (parRow_length _ _ _) (parRow_32 _ (fun _ => leafOf_length _ _ _) _ _) (by omega)).sl)
      rw [parRow_all, ← leafRow_eq] at HID
      obtain ⟨⟨A', c', e0, hrow⟩, _⟩ := HID.out
      have e1 := e0
      injection e1 with e2 e4 e3
      subst e2
      have HRW := hid hrow
      have HRz := hid (grow_block HR.out HG.out)
      have HBz := hid (Grow.trans HB.out HG.out)
      clear hrow e0 e3 e4 HID HR HB X6
      go_wp2_with fail
      refine (HFD.out _ j _ HRW.out).mono ?_
      rintro e w9 ⟨v, rfl, ho, hb⟩
      have HO := hid ho
      have HRy := hid (grow_block HRz.out hb)
      have HBy := hid (Grow.trans HBz.out hb)
      have HLT := hid (blk_lt HRz.out)
      have HSZ := hid HBz.out.size
      clear ho hb HRz HBz
      obtain ⟨Ar, cr, rfl, _, _⟩ := HO.out.sl
      go_wp2_with (first | (refine op_allocstore (l := root) rfl rfl rfl rfl rfl rfl (fun _ => rfl) ⟨fun _ => rfl, LN.out⟩ ?_) | fail)
      intro g7 wy hgl hgu hb hr
      have X7 := hid hr
      replace HO := hid (HO.out.grow hb)
      replace HRy := hid (grow_block HRy.out hb)
      replace HBy := hid (Grow.trans HBy.out hb)
      clear hgl hgu hb hr
      have HBD := hid (fun w => run_buildOwn Ar (foldRows h (leafRow seed b j)).length cr root LN.out w)
      go_wp2_with (first | (refine op_loadId rfl rfl rfl X7.out LN.out ?_) | (refine opG_build (ps := #[(0, .slice Ar (foldRows h (leafRow seed b j)).length cr), (1, idV root)]) rfl rfl (by simp only [List.map_toArray, List.map_cons, List.map_nil]; rfl) HBD.out ?_) | (refine store_block 154 _ _ gr 0 (ownC (.slice Ar (foldRows h (leafRow seed b j)).length cr) root) (ownC (.slice none 0 0) (List.replicate 32 0)) (ownC (.slice Ar (foldRows h (leafRow seed b j)).length cr) root) 154 rfl rfl rfl rfl rfl HRy.out (by rw [infoOwn, ownC_length LN.out]) (by rw [ownC_length LN.out, ownC_length (by simp)]; omega) (ownC_one _ _ _ _) (by rw [List.take_zero, List.nil_append, List.drop_eq_nil_of_le (by rw [ownC_length LN.out, ownC_length (by simp)]; omega), List.append_nil]) ?_) | fail)
      intro wz hz9 hgb hbz
      have HZ := hid hz9
      have HBZ := hid (hbz _ _ HBy.out HRL.out)
      have HRZ := hid (HO.out.store hgb HLT.out)
      clear hz9 hgb hbz
      go_wp2_with fail
      refine bodyPost_ret (results_cell_row rfl _ _ gr _ _ _ _ rfl HZ.out Tryz.underlying154 rfl (by rw [infoOwn, List.size_toArray, ownC_length LN.out])) rfl ⟨_, rfl, ?_, HBZ.out⟩
      exact HRZ.out.base HSZ.out
end Go.Proofs.YtabkaflccaklhaaGreat
end
section
/- Rows of two texts; slices.Reverse of at most two of them: contracts. -/
namespace Go.Proofs.YtabkaflccaklhaaGreat
open Go.RowKit
open Go.Qk hiding rotr b4
set_option maxHeartbeats 1000000
set_option maxRecDepth 100000
def txC (t : TxP) : List Value := [.string (bs t.1), .string (bs t.2)]
def txCells (l : List TxP) : List Value := l.flatMap txC
def OwnTx (B : Nat) (w : World) (v : Value) (l : List TxP) : Prop := w.ownsRow B 112 2 v l.length (txCells l)
theorem txCells_snoc (l : List TxP) (t : TxP) : txCells (l ++ [t]) = txCells l ++ txC t := by simp [txCells]
theorem txCells_app (l m : List TxP) : txCells (l ++ m) = txCells l ++ txCells m := by simp [txCells]
theorem txCells_length : ∀ (l : List TxP), (txCells l).length = l.length * 2
  | [] => rfl
  | t :: l => by
    have ih := txCells_length l
    show (txC t ++ txCells l).length = _
    rw [List.length_append, ih, List.length_cons]
    show 2 + _ = _
    omega
theorem txC_one (t : TxP) : ∀ u ∈ txC t, u.oneCell' = true := by
  intro u hu
  simp only [txC, List.mem_cons, List.not_mem_nil, or_false] at hu
  rcases hu with rfl | rfl <;> rfl
theorem txCells_one (l : List TxP) : ∀ u ∈ txCells l, u.oneCell' = true := by
  intro u hu
  obtain ⟨t, _, h⟩ := List.mem_flatMap.1 hu
  exact txC_one t u h
theorem infoTxZ : (Tryz.prog.info? 112).map (fun i => (i.zero, i.size, i.bytes)) = some (some (.agg #[.string ByteArray.empty, .string ByteArray.empty]), 2, 32) := by kernel_rfl
theorem infoTx (t : TxP) : (Tryz.prog.info? 112).map (·.size) = some (txC t).length := by kernel_rfl
theorem txCells_get : ∀ (l : List TxP) (i j : Nat) (v : Value) (d : TxP), i < l.length → (txC (l.getD i d))[j]? = some v → (txCells l)[i * 2 + j]? = some v
  | [], i, j, v, d, h, _ => by simp at h
  | x :: t, 0, j, v, d, h, hv => by
    have hj : j < 2 := (List.getElem?_eq_some_iff.1 hv).1
    have e : txCells (x :: t) = txC x ++ txCells t := rfl
    rw [e, List.getElem?_append_left (by show 0 * 2 + j < 2; omega), Nat.zero_mul, Nat.zero_add]
    exact hv
  | x :: t, i + 1, j, v, d, h, hv => by
    have e : txCells (x :: t) = txC x ++ txCells t := rfl
    have ih := txCells_get t i j v d (by simpa using h) (by simpa using hv)
    rw [e, List.getElem?_append_right (by show 2 ≤ (i + 1) * 2 + j; omega)]
    have e2 : (i + 1) * 2 + j - (txC x).length = i * 2 + j := by show (i + 1) * 2 + j - 2 = _; omega
    rw [e2]
    exact ih
theorem run_opLoadAgg {P : Program} {o : Oper} {a : Act} {w : World} {x : Operand} {ad : Addr} {cs : List Value} {T : TypeId} {d : TypeDesc} (ho : o.op = .load T x) (hx : a.eval x = .pointer (some ad)) (hc : ∀ j v, cs[j]? = some v → w.cell? (ad.add j) = some v) (hu : P.underlying T = some d) (hd : aggD d = true) (hi : (P.info? T).map (·.size) = some cs.length) :
    (execOp a.eval o).run P w = .ok (.value (.agg cs.toArray)) w := by
  unfold execOp
  cases d with
  | struct _ => simp only [ho, hx, Sem.run_bind, Sem.run_pure, Result.andThen_ok, run_loadAt_agg (P := P) w ad T cs _ hc hu rfl hi]
  | array _ _ => simp only [ho, hx, Sem.run_bind, Sem.run_pure, Result.andThen_ok, run_loadAt_agg (P := P) w ad T cs _ hc hu rfl hi]
  | _ => cases hd
theorem revTx (l : List TxP) (hl : l.length ≤ 2) (v : Value) (B : Nat) (w : World) (ho : OwnTx B w v l) (hB : B ≤ w.heap.size) :
    Calls Tryz.prog 105 #[v] w fun e w' => e = .returned (.tuple #[]) ∧ OwnTx B w' v l.reverse ∧ Fr (fun k => v.ownBlock = some k) w w' := by
  by_cases h2 : l.length = 2
  · match l, h2 with
    | [t, u], _ =>
      rcases ho with ⟨h0, ⟨_, h1⟩ | ⟨g, cap, cur, rfl, hb, hg, hc, hm, hsz, htk⟩⟩
      · simp at h1
      · have hcl : cur.toList.take 4 = [Value.string (bs t.1), .string (bs t.2), .string (bs u.1), .string (bs u.2)] := by
          have : cur.toList.take 4 = txCells [t, u] := htk
          rw [this]; rfl
        obtain ⟨tl, htl⟩ : ∃ tl, cur.toList = [Value.string (bs t.1), .string (bs t.2), .string (bs u.1), .string (bs u.2)] ++ tl := ⟨cur.toList.drop 4, by rw [← hcl, List.take_append_drop]⟩
        obtain rfl : cur = ([Value.string (bs t.1), .string (bs t.2), .string (bs u.1), .string (bs u.2)] ++ tl).toArray := by rw [← htl]
        have HG := hid hg
        have c0 : ∀ W, Grow w W → ∀ j v, (txC t)[j]? = some v → W.cell? ((⟨g, 0, none⟩ : Addr).add j) = some v := fun W hW j v hv => by
          have hj : j < 2 := (List.getElem?_eq_some_iff.1 hv).1
          have hw := grow_block HG.out hW
          match j, hj, hv with
          | 0, _, hv => simp [txC] at hv; subst hv; exact blk_cell hw rfl
          | 1, _, hv => simp [txC] at hv; subst hv; exact blk_cell hw rfl
        have c1 : ∀ W, Grow w W → ∀ j v, (txC u)[j]? = some v → W.cell? ((⟨g, 2, none⟩ : Addr).add j) = some v := fun W hW j v hv => by
          have hj : j < 2 := (List.getElem?_eq_some_iff.1 hv).1
          have hw := grow_block HG.out hW
          match j, hj, hv with
          | 0, _, hv => simp [txC] at hv; subst hv; exact blk_cell hw rfl
          | 1, _, hv => simp [txC] at hv; subst hv; exact blk_cell hw rfl
        have C0 := hid c0
        have C1 := hid c1
        have HM := hid (And.intro hb (And.intro hc (And.intro hm hsz)))
        clear hb hg hc hm hsz htk hcl htl c0 c1 hl h0
        go_enter Tryz.func105, Tryz.ntmps105
        have HB := hid (grow_refl w)
        go_wp2_with fail
        go_loopg [2, 3] 2 (fun z i j wr => (z = 2 ∧ i = .int .i64 0 ∧ j = .int .i64 1 ∧ Hid (wr = w)) ∨ (z = 1 ∧ i = .int .i64 1 ∧ j = .int .i64 0 ∧ Hid (wr.heap[g]? = some (.cells ([Value.string (bs u.1), .string (bs u.2), .string (bs t.1), .string (bs t.2)] ++ tl).toArray 112 (0, 0))) ∧ Hid (w.grownBy wr (some g))))
        case atStart => exact .inl ⟨rfl, rfl, rfl, rfl⟩
        case round =>
          rcases hrel with ⟨rfl, rfl, rfl, hw⟩ | ⟨rfl, rfl, rfl, HZ, HW⟩
          · obtain rfl := hw.out
            go_wp2_with fail
            refine wp_region_floatQ (fun W => Grow wr W) [2, 3] [0, 1, 4, 5, 6, 7, 8, 9, 10, 11, 12] [] [13, 14, 15] rfl (by kernel_rfl) rfl (by kernel_rfl) (by kernel_rfl) ?_
            intro wf1 hb
            replace HB := hid (Grow.trans HB.out hb)
            clear hb
            refine ⟨HB.out, ?_⟩
            iterate 2 (refine pickQ_val rfl rfl (fun w' => by go_simp; with_reducible rfl) (fun _ _ _ h => h) ?_; try simp only [List.getElem_toArray, List.getElem_cons_zero, List.getElem_cons_succ, Act.put, List.setIfInBounds_toArray, List.set_cons_zero, List.set_cons_succ])
            refine pickQ_nil ?_
            (refine' pickT_val ?po25 ?pw25 ?pr25 ?pq25 ?ph25; (case' po25 => exact rfl); (case' pw25 => rfl); (case' pq25 => (exact fun _ _ _ h => h)); (case' pr25 => (intro w' hw'; go_simp; with_reducible rfl)); (case' ph25 => (try simp only [List.getElem_toArray, List.getElem_cons_zero, List.getElem_cons_succ, Act.put, List.setIfInBounds_toArray, List.set_cons_zero, List.set_cons_succ]))); (refine' pickT_val ?po26 ?pw26 ?pr26 ?pq26 ?ph26; (case' po26 => exact rfl); (case' pw26 => rfl); (case' pq26 => (exact fun _ _ _ h => h)); (case' pr26 => (intro w' hw'; go_simp; with_reducible rfl)); (case' ph26 => (try simp only [List.getElem_toArray, List.getElem_cons_zero, List.getElem_cons_succ, Act.put, List.setIfInBounds_toArray, List.set_cons_zero, List.set_cons_succ]))); (refine' pickT_val ?po27 ?pw27 ?pr27 ?pq27 ?ph27; (case' po27 => exact rfl); (case' pw27 => rfl); (case' pq27 => (exact fun _ _ _ h => h)); (case' pr27 => (intro w' hw'; go_simp; with_reducible rfl)); (case' ph27 => (try simp only [List.getElem_toArray, List.getElem_cons_zero, List.getElem_cons_succ, Act.put, List.setIfInBounds_toArray, List.set_cons_zero, List.set_cons_succ]))); (refine' pickT_val ?po28 ?pw28 ?pr28 ?pq28 ?ph28; (case' po28 => exact rfl); (case' pw28 => rfl); (case' pq28 => (exact fun _ _ _ h => h)); (case' pr28 => (intro w' hw'; go_simp; with_reducible rfl)); (case' ph28 => (try simp only [List.getElem_toArray, List.getElem_cons_zero, List.getElem_cons_succ, Act.put, List.setIfInBounds_toArray, List.set_cons_zero, List.set_cons_succ]))); (refine' pickT_val ?po29 ?pw29 ?pr29 ?pq29 ?ph29; (case' po29 => exact rfl); (case' pw29 => rfl); (case' pq29 => (exact fun _ _ _ h => h)); (case' pr29 => (intro w' hw'; go_simp; with_reducible rfl)); (case' ph29 => (try simp only [List.getElem_toArray, List.getElem_cons_zero, List.getElem_cons_succ, Act.put, List.setIfInBounds_toArray, List.set_cons_zero, List.set_cons_succ])))
            (refine' pickT_val (v := .agg (txC u).toArray) ?po30 ?pw30 ?pr30 ?pq30 ?ph30; (case' po30 => exact rfl); (case' pw30 => rfl); (case' pq30 => (exact fun _ _ _ h => h)); (case' pr30 => (intro w' hw'; exact run_opLoadAgg (cs := txC u) rfl rfl (C1.out _ hw') Tryz.underlying112 rfl (infoTx u))); (case' ph30 => (try simp only [List.getElem_toArray, List.getElem_cons_zero, List.getElem_cons_succ, Act.put, List.setIfInBounds_toArray, List.set_cons_zero, List.set_cons_succ])))
            (refine' pickT_val ?po31 ?pw31 ?pr31 ?pq31 ?ph31; (case' po31 => exact rfl); (case' pw31 => rfl); (case' pq31 => (exact fun _ _ _ h => h)); (case' pr31 => (intro w' hw'; go_simp; with_reducible rfl)); (case' ph31 => (try simp only [List.getElem_toArray, List.getElem_cons_zero, List.getElem_cons_succ, Act.put, List.setIfInBounds_toArray, List.set_cons_zero, List.set_cons_succ]))); (refine' pickT_val ?po32 ?pw32 ?pr32 ?pq32 ?ph32; (case' po32 => exact rfl); (case' pw32 => rfl); (case' pq32 => (exact fun _ _ _ h => h)); (case' pr32 => (intro w' hw'; go_simp; with_reducible rfl)); (case' ph32 => (try simp only [List.getElem_toArray, List.getElem_cons_zero, List.getElem_cons_succ, Act.put, List.setIfInBounds_toArray, List.set_cons_zero, List.set_cons_succ]))); (refine' pickT_val ?po33 ?pw33 ?pr33 ?pq33 ?ph33; (case' po33 => exact rfl); (case' pw33 => rfl); (case' pq33 => (exact fun _ _ _ h => h)); (case' pr33 => (intro w' hw'; go_simp; with_reducible rfl)); (case' ph33 => (try simp only [List.getElem_toArray, List.getElem_cons_zero, List.getElem_cons_succ, Act.put, List.setIfInBounds_toArray, List.set_cons_zero, List.set_cons_succ])))
            (refine' pickT_val (v := .agg (txC t).toArray) ?po34 ?pw34 ?pr34 ?pq34 ?ph34; (case' po34 => exact rfl); (case' pw34 => rfl); (case' pq34 => (exact fun _ _ _ h => h)); (case' pr34 => (intro w' hw'; exact run_opLoadAgg (cs := txC t) rfl rfl (C0.out _ hw') Tryz.underlying112 rfl (infoTx t))); (case' ph34 => (try simp only [List.getElem_toArray, List.getElem_cons_zero, List.getElem_cons_succ, Act.put, List.setIfInBounds_toArray, List.set_cons_zero, List.set_cons_succ])))
            (refine' pickT_val ?po35 ?pw35 ?pr35 ?pq35 ?ph35; (case' po35 => exact rfl); (case' pw35 => rfl); (case' pq35 => (exact fun _ _ _ h => h)); (case' pr35 => (intro w' hw'; go_simp; with_reducible rfl)); (case' ph35 => (try simp only [List.getElem_toArray, List.getElem_cons_zero, List.getElem_cons_succ, Act.put, List.setIfInBounds_toArray, List.set_cons_zero, List.set_cons_succ])))
            refine pickT_nil ?_
            refine seqT_nil ?_
            show wpList _ _ _ (_ :: _ :: _ :: []) _ _
            have HG1 := hid (grow_block HG.out HB.out)
            go_wp2_with (first | (refine store_block 112 _ _ g 0 (txC u) ([Value.string (bs t.1), .string (bs t.2), .string (bs u.1), .string (bs u.2)] ++ tl) ([Value.string (bs u.1), .string (bs u.2), .string (bs u.1), .string (bs u.2)] ++ tl) 112 rfl rfl rfl rfl rfl HG1.out (infoTx u) (by simp [txC]) (txC_one u) (by simp [txC]) ?_) | fail)
            intro w2 hz2 hg2 _
            have HZ2 := hid hz2
            clear hz2 HG1
            go_wp2_with (first | (refine store_block 112 _ _ g 2 (txC t) ([Value.string (bs u.1), .string (bs u.2), .string (bs u.1), .string (bs u.2)] ++ tl) ([Value.string (bs u.1), .string (bs u.2), .string (bs t.1), .string (bs t.2)] ++ tl) 112 rfl rfl rfl rfl rfl HZ2.out (infoTx t) (by simp [txC]) (txC_one t) (by simp [txC]) ?_) | fail)
            intro w3 hz3 hg3 _
            have HZ3 := hid hz3
            have HF := hid (grownBy_trans (grownBy_trans (grownBy_grow HB.out (some g)) hg2) hg3)
            clear hz3 hg2 hg3 HZ2
            go_wp2_with fail
            go_roundg 1
            case rel => exact .inr ⟨rfl, rfl, rfl, HZ3, HF⟩
            case measure => omega
          · go_wp2_with fail
            go_end0
            obtain ⟨q1, q2, q3, q4⟩ := HM.out
            exact ⟨rfl, ⟨rfl, .inr ⟨g, cap, _, rfl, q1, HZ.out, q2, q3, by simpa using q4, by simp [txCells, txC]⟩⟩, fr_grown HW.out (fun k hk => .inl (by injection hk with hk; subst hk; rfl))⟩
  · obtain ⟨A, c, rfl, _⟩ := own_sl ho
    have hr : l.reverse = l := by
      match l, hl, h2 with
      | [], _, _ => rfl
      | [_], _, _ => rfl
      | [_, _], _, h2 => exact absurd rfl h2
    have HO := hid (show w.ownsRow B 112 2 (.slice A l.length c) l.length (txCells l) from ho)
    have HR := hid hr
    obtain ⟨n, hn⟩ : ∃ n, n = l.length := ⟨_, rfl⟩
    have HN := hid hn
    have n1 : (n : Int) ≤ 1 := by omega
    have n0 : (0 : Int) ≤ (n : Int) := by omega
    have t1 : decide ((0 : Int) < (n : Int) - 1) = false := by simp; omega
    rw [hr]
    rw [← hn] at HO ⊢
    clear ho hr hl h2 hn
    go_enter Tryz.func105, Tryz.ntmps105
    have HB := hid (grow_refl w)
    go_wp2_with fail
    go_loopg [2, 3] 1 (fun z i j wr => z = 1 ∧ i = .int .i64 0 ∧ j = .int .i64 ((n : Int) - 1) ∧ Hid (wr = w))
    case atStart => exact ⟨rfl, rfl, by go_num, rfl⟩
    case round =>
      obtain ⟨rfl, rfl, rfl, hw⟩ := hrel
      obtain rfl := hw.out
      go_wp2_with fail
      go_end0
      exact ⟨rfl, by unfold OwnTx; rw [← HN.out]; exact HO.out, Fr.refl _ _⟩
end Go.Proofs.YtabkaflccaklhaaGreat
end
