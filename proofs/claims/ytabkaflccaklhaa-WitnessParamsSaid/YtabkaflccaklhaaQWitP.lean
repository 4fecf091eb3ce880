/- Witness, plain: rows of leaves and sums, the texts of a climb, where they are unlike; what follows where all are alike. -/
import Derived.Test.YtabkaflccaklhaaQSig7
set_option linter.unusedSimpArgs false
set_option linter.unusedVariables false
namespace Go.Proofs.Ytabkaflccaklhaa
open Go.RowKit
open Go.Qk hiding rotr b4
set_option maxHeartbeats 1000000
abbrev WRow := Int × IdK
def leafName : ByteArray := ⟨#[108, 101, 97, 102]⟩
def keyName : ByteArray := ⟨#[107, 101, 121]⟩
def alikeB (n : Nat) (a b : IdK) : Bool := (List.range n).all fun i => decide (bitI a i = bitI b i)
def honestW (n : Nat) (l : List WRow) (sum : IdK) (leaf : Int) : Bool := l.any fun r => decide (r.1 = leaf) && alikeB n r.2 sum
def shownW (l : List WRow) (leaf : Int) (bit : Nat) (side : Int) : Bool := l.any fun r => decide (r.1 = leaf) && decide (bitI r.2 bit = side)
def keepsW (l : List WRow) : Prop := (l.map Prod.fst).Nodup
def firstW (n : Nat) (l : List WRow) (sum : IdK) (leaf : Int) : Option Nat := (List.range n).find? fun b => !shownW l leaf b (bitI sum b)
theorem none_keeps {n : Nat} (hn : 0 < n) {l : List WRow} {sum : IdK} {leaf : Int} (h1 : honestW n l sum leaf = false) (h2 : firstW n l sum leaf = none) : ¬ keepsW l := by
  intro hk
  unfold firstW at h2
  rw [List.find?_eq_none] at h2
  have key : ∀ b, b < n → ∃ r ∈ l, r.1 = leaf ∧ bitI r.2 b = bitI sum b := by
    intro b hb
    have := h2 b (List.mem_range.2 hb)
    simp only [Bool.not_eq_true', Bool.not_eq_false] at this
    unfold shownW at this
    obtain ⟨r, hr, hq⟩ := List.any_eq_true.1 this
    simp only [Bool.and_eq_true, decide_eq_true_eq] at hq
    exact ⟨r, hr, hq⟩
  obtain ⟨r, hr, hl, _⟩ := key 0 hn
  have one : ∀ q ∈ l, q.1 = leaf → q = r := by
    intro q hq hql
    have hp : l.Pairwise (fun a b => a.1 ≠ b.1) := List.pairwise_map.1 hk
    by_cases he : q = r
    · exact he
    · exfalso
      obtain ⟨i, hi, rfl⟩ := List.mem_iff_getElem.1 hq
      obtain ⟨j, hj, rfl⟩ := List.mem_iff_getElem.1 hr
      rw [List.pairwise_iff_getElem] at hp
      rcases Nat.lt_trichotomy i j with h | h | h
      · exact hp i j hi hj h (hql.trans hl.symm)
      · subst h; exact he rfl
      · exact hp j i hj hi h (hl.trans hql.symm)
  have : honestW n l sum leaf = true := by
    unfold honestW
    refine List.any_eq_true.2 ⟨r, hr, ?_⟩
    simp only [Bool.and_eq_true, decide_eq_true_eq]
    refine ⟨hl, ?_⟩
    unfold alikeB
    refine List.all_eq_true.2 fun b hb => ?_
    obtain ⟨q, hq, hql, hqb⟩ := key b (List.mem_range.1 hb)
    rw [one q hq hql] at hqb
    simpa using hqb
  rw [h1] at this
  cases this
/-- The texts. -/
def keyTx (b h : Nat) (root : IdK) : List UInt8 := textOf keyName (keyParts b h root)
def nodeTx (a b : IdK) : List UInt8 := textOf nodeName [bs a, bs b]
def leafTx (l : List IdK) : List UInt8 := textOf leafName [bs l.flatten]
theorem keyTx_sum (b h : Nat) (root : IdK) : shaOf (keyTx b h root) = keyOf b h root := rfl
theorem nodeTx_sum (a b : IdK) : shaOf (nodeTx a b) = nd a b := by
  unfold nd pairOf
  rw [cutName_short nodeName (by decide)]
  rfl
theorem leafTx_sum (l : List IdK) : shaOf (leafTx l) = chainOf leafName l := by
  unfold chainOf
  rw [cutName_short leafName (by decide)]
  rfl
theorem keyTx_inj {b h : Nat} {r s : IdK} (hr : r.length = 32) (hs : s.length = 32) (e : keyTx b h r = keyTx b h s) : r = s := by
  have sz : ∀ (r : IdK), r.length = 32 → ∀ t ∈ keyParts b h r, t.size ≤ 9223372036854775807 := by
    intro r hr t ht
    simp only [keyParts, List.mem_cons, List.not_mem_nil, or_false] at ht
    rcases ht with rfl | rfl | rfl
    · rw [bs_size, be_length]; omega
    · rw [bs_size, be_length]; omega
    · rw [bs_size]; omega
  have := (textOf_inj (by decide) (by decide) (sz r hr) (sz s hs) e).2
  injection this with _ e2
  injection e2 with _ e3
  injection e3 with e4 _
  exact bs_inj e4
theorem nodeTx_inj {a b c d : IdK} (ha : a.length = 32) (hb : b.length = 32) (hc : c.length = 32) (hd : d.length = 32) (e : nodeTx a b = nodeTx c d) : a = c ∧ b = d := by
  have sz : ∀ (x y : IdK), x.length = 32 → y.length = 32 → ∀ t ∈ [bs x, bs y], t.size ≤ 9223372036854775807 := by
    intro x y hx hy t ht
    simp only [List.mem_cons, List.not_mem_nil, or_false] at ht
    rcases ht with rfl | rfl <;> rw [bs_size] <;> omega
  have := (textOf_inj (by decide) (by decide) (sz a b ha hb) (sz c d hc hd) e).2
  injection this with e1 e2
  injection e2 with e2 _
  exact ⟨bs_inj e1, bs_inj e2⟩
theorem flatten32 : ∀ (l m : List IdK), (∀ s ∈ l, s.length = 32) → (∀ s ∈ m, s.length = 32) → l.flatten = m.flatten → l = m
  | [], [], _, _, _ => rfl
  | [], b :: m, _, h2, e => by
    exfalso
    have := congrArg List.length e
    simp [h2 b List.mem_cons_self] at this
    try omega
  | a :: l, [], h1, _, e => by
    exfalso
    have := congrArg List.length e
    simp [h1 a List.mem_cons_self] at this
    try omega
  | a :: l, b :: m, h1, h2, e => by
    rw [List.flatten_cons, List.flatten_cons] at e
    obtain ⟨e1, e2⟩ := List.append_inj e (by rw [h1 a List.mem_cons_self, h2 b List.mem_cons_self])
    rw [e1, flatten32 l m (fun s hs => h1 s (List.mem_cons_of_mem _ hs)) (fun s hs => h2 s (List.mem_cons_of_mem _ hs)) e2]
theorem flatten32_length : ∀ (l : List IdK), (∀ s ∈ l, s.length = 32) → l.flatten.length = 32 * l.length
  | [], _ => rfl
  | a :: l, h => by
    rw [List.flatten_cons, List.length_append, flatten32_length l (fun s hs => h s (List.mem_cons_of_mem _ hs)), h a List.mem_cons_self, List.length_cons]
    omega
theorem leafTx_inj {l m : List IdK} (h1 : ∀ s ∈ l, s.length = 32) (h2 : ∀ s ∈ m, s.length = 32) (b1 : l.length ≤ 1000000) (b2 : m.length ≤ 1000000) (e : leafTx l = leafTx m) : l = m := by
  have sz : ∀ (l : List IdK), (∀ s ∈ l, s.length = 32) → l.length ≤ 1000000 → ∀ t ∈ [bs l.flatten], t.size ≤ 9223372036854775807 := by
    intro l hl hb t ht
    rw [List.mem_singleton.1 ht, bs_size, flatten32_length l hl]
    omega
  have := (textOf_inj (by decide) (by decide) (sz l h1 b1) (sz m h2 b2) e).2
  injection this with e1 _
  exact flatten32 l m h1 h2 (bs_inj e1)
abbrev TxP := List UInt8 × List UInt8
/-- What a climb has come to below a level, and the two that it joins there. -/
def curW (leaf : Nat) (s0 : IdK) (way : List IdK) (k : Nat) : IdK := climbTo leaf s0 (way.take k)
def sideA (leaf : Nat) (s0 : IdK) (way : List IdK) (k : Nat) : IdK := if leaf / 2 ^ k % 2 = 1 then way.getD k [] else curW leaf s0 way k
def sideB (leaf : Nat) (s0 : IdK) (way : List IdK) (k : Nat) : IdK := if leaf / 2 ^ k % 2 = 1 then curW leaf s0 way k else way.getD k []
def nodeP (seed : ByteArray) (b leaf : Nat) (s0 : IdK) (way : List IdK) (k : Nat) : TxP :=
  (nodeTx (sideA leaf s0 way k) (sideB leaf s0 way k), nodeTx (nodeOf seed b k (2 * (leaf / 2 ^ (k + 1)))) (nodeOf seed b k (2 * (leaf / 2 ^ (k + 1)) + 1)))
def textsW (seed : ByteArray) (b h leaf : Nat) (s0 : IdK) (way pubs : List IdK) : List TxP :=
  (keyTx b h (climbTo leaf s0 way), keyTx b h (nodeOf seed b h 0)) :: ((List.range way.length).map (nodeP seed b leaf s0 way)).reverse ++ [(leafTx pubs, leafTx (bothRow (leafPub seed leaf) b))]
def unlikeP (t : TxP) : Bool := decide (t.1 ≠ t.2)
theorem curW_succ (leaf : Nat) (s0 : IdK) (way : List IdK) (k : Nat) (hk : k < way.length) : curW leaf s0 way (k + 1) = nd (sideA leaf s0 way k) (sideB leaf s0 way k) := by
  unfold curW sideA sideB
  rw [List.take_succ_eq_append_getElem hk, climbTo_snoc, List.length_take, Nat.min_eq_left (by omega)]
  have e : way.getD k [] = way[k] := by simp [hk]
  rw [e]
  split <;> rfl
theorem curW_length (leaf : Nat) (s0 : IdK) (way : List IdK) (k : Nat) (h0 : s0.length = 32) : (curW leaf s0 way k).length = 32 := climbTo_length _ _ _ h0
theorem way_len {way : List IdK} (h : ∀ s ∈ way, s.length = 32) {k : Nat} (hk : k < way.length) : (way.getD k []).length = 32 := h _ (by simp [hk])
theorem nodeP_step (seed : ByteArray) (b leaf : Nat) (s0 : IdK) (way : List IdK) (k : Nat) (hk : k < way.length) (h0 : s0.length = 32) (hw : ∀ s ∈ way, s.length = 32) (hp : curW leaf s0 way (k + 1) = nodeOf seed b (k + 1) (leaf / 2 ^ (k + 1))) :
    shaOf (nodeP seed b leaf s0 way k).1 = shaOf (nodeP seed b leaf s0 way k).2 ∧ (unlikeP (nodeP seed b leaf s0 way k) = false → curW leaf s0 way k = nodeOf seed b k (leaf / 2 ^ k)) := by
  rw [curW_succ leaf s0 way k hk] at hp
  have e2 : leaf / 2 ^ (k + 1) = leaf / 2 ^ k / 2 := by rw [Nat.pow_succ, Nat.div_div_eq_div_mul]
  have lc := curW_length leaf s0 way k h0
  have lw := way_len hw hk
  refine ⟨?_, fun hu => ?_⟩
  · unfold nodeP
    rw [nodeTx_sum, nodeTx_sum, hp]
    rfl
  · unfold unlikeP at hu
    have hu' : (nodeP seed b leaf s0 way k).1 = (nodeP seed b leaf s0 way k).2 := by simpa using hu
    unfold nodeP at hu'
    have l1 : (sideA leaf s0 way k).length = 32 := by unfold sideA; split <;> assumption
    have l2 : (sideB leaf s0 way k).length = 32 := by unfold sideB; split <;> assumption
    obtain ⟨q1, q2⟩ := nodeTx_inj l1 l2 (nodeOf_length _ _ _ _) (nodeOf_length _ _ _ _) hu'
    rw [e2] at q1 q2
    unfold sideA at q1
    unfold sideB at q2
    by_cases ho : leaf / 2 ^ k % 2 = 1
    · rw [if_pos ho] at q2
      rw [q2, show 2 * (leaf / 2 ^ k / 2) + 1 = leaf / 2 ^ k by omega]
    · rw [if_neg ho] at q1
      rw [q1, show 2 * (leaf / 2 ^ k / 2) = leaf / 2 ^ k by omega]
theorem texts_down (seed : ByteArray) (b leaf : Nat) (s0 : IdK) (way pubs : List IdK) (h0 : s0.length = 32) (hw : ∀ s ∈ way, s.length = 32) (hs : s0 = chainOf leafName pubs) (hp1 : ∀ s ∈ pubs, s.length = 32) (hp2 : pubs.length ≤ 1000000) (hb : b ≤ 256) :
    ∀ k, k ≤ way.length → curW leaf s0 way k = nodeOf seed b k (leaf / 2 ^ k) →
      (∀ t, (((List.range k).map (nodeP seed b leaf s0 way)).reverse ++ [(leafTx pubs, leafTx (bothRow (leafPub seed leaf) b))]).find? unlikeP = some t → t.1 ≠ t.2 ∧ shaOf t.1 = shaOf t.2) ∧
      ((((List.range k).map (nodeP seed b leaf s0 way)).reverse ++ [(leafTx pubs, leafTx (bothRow (leafPub seed leaf) b))]).find? unlikeP = none → pubs = bothRow (leafPub seed leaf) b)
  | 0, _, hc => by
    have hc' : s0 = leafOf seed leaf b := by simpa [curW, climbTo, nodeOf] using hc
    have hsum : shaOf (leafTx pubs) = shaOf (leafTx (bothRow (leafPub seed leaf) b)) := by rw [leafTx_sum, leafTx_sum, ← hs, hc']; rfl
    simp only [List.range_zero, List.map_nil, List.reverse_nil, List.nil_append, List.find?_cons, List.find?_nil]
    cases hu : unlikeP (leafTx pubs, leafTx (bothRow (leafPub seed leaf) b))
    · refine ⟨fun t h => by simp at h, fun _ => ?_⟩
      have : leafTx pubs = leafTx (bothRow (leafPub seed leaf) b) := by simpa [unlikeP] using hu
      exact leafTx_inj hp1 (bothRow_32 _ (leafPub_length seed leaf) b) hp2 (by rw [bothRow_length]; omega) this
    · refine ⟨fun t h => ?_, fun h => by simp at h⟩
      have e : (leafTx pubs, leafTx (bothRow (leafPub seed leaf) b)) = t := by simpa using h
      rw [← e]
      exact ⟨by simpa [unlikeP] using hu, hsum⟩
  | k + 1, hk, hc => by
    obtain ⟨q1, q2⟩ := nodeP_step seed b leaf s0 way k (by omega) h0 hw hc
    have ih := texts_down seed b leaf s0 way pubs h0 hw hs hp1 hp2 hb k (by omega)
    rw [List.range_succ, List.map_append, List.reverse_append]
    simp only [List.map_cons, List.map_nil, List.reverse_cons, List.reverse_nil, List.nil_append, List.cons_append, List.find?_cons]
    cases hu : unlikeP (nodeP seed b leaf s0 way k)
    · exact ih (q2 hu)
    · refine ⟨fun t h => ?_, fun h => by simp at h⟩
      have e : nodeP seed b leaf s0 way k = t := by simpa using h
      rw [← e]
      exact ⟨by simpa [unlikeP] using hu, q1⟩
theorem texts_law (seed : ByteArray) (b h leaf : Nat) (s0 : IdK) (way pubs : List IdK) (h0 : s0.length = 32) (hw : ∀ s ∈ way, s.length = 32) (hs : s0 = chainOf leafName pubs) (hp1 : ∀ s ∈ pubs, s.length = 32) (hp2 : pubs.length ≤ 1000000) (hb : b ≤ 256)
    (hh : way.length = h) (hl : leaf < 2 ^ h) (hk : keyOf b h (climbTo leaf s0 way) = ktOf seed b h) :
    (∀ t, (textsW seed b h leaf s0 way pubs).find? unlikeP = some t → t.1 ≠ t.2 ∧ shaOf t.1 = shaOf t.2) ∧ ((textsW seed b h leaf s0 way pubs).find? unlikeP = none → pubs = bothRow (leafPub seed leaf) b) := by
  unfold textsW
  rw [List.cons_append, List.find?_cons]
  cases hu : unlikeP (keyTx b h (climbTo leaf s0 way), keyTx b h (nodeOf seed b h 0))
  · have e : keyTx b h (climbTo leaf s0 way) = keyTx b h (nodeOf seed b h 0) := by simpa [unlikeP] using hu
    have e1 := keyTx_inj (climbTo_length _ _ _ h0) (nodeOf_length _ _ _ _) e
    exact texts_down seed b leaf s0 way pubs h0 hw hs hp1 hp2 hb way.length (Nat.le_refl _) (by unfold curW; rw [List.take_length, e1, hh, Nat.div_eq_of_lt hl])
  · refine ⟨fun t ht => ?_, fun h => by simp at h⟩
    have e : (keyTx b h (climbTo leaf s0 way), keyTx b h (nodeOf seed b h 0)) = t := by simpa using ht
    rw [← e]
    exact ⟨by simpa [unlikeP] using hu, hk⟩
theorem bothRow_get (g g' : Nat → Nat → List UInt8) : ∀ (n : Nat), bothRow g n = bothRow g' n → ∀ b, b < n → g b 0 = g' b 0 ∧ g b 1 = g' b 1
  | 0, _, b, hb => by omega
  | n + 1, e, b, hb => by
    rw [bothRow_succ, bothRow_succ] at e
    obtain ⟨e1, e2⟩ := List.append_inj e (by rw [bothRow_length, bothRow_length])
    by_cases h : b < n
    · exact bothRow_get g g' n e1 b h
    · obtain rfl : b = n := by omega
      simpa using e2
theorem shown_public {seed : ByteArray} {leaf : Int} {sum : IdK} {shown hidden : List IdK} {b : Nat} (e : bothRow (pubG sum shown hidden) b = bothRow (leafPub seed leaf) b) {k : Nat} (hk : k < b) : publicOf (shown.getD k []) = publicOf (secretOf seed leaf k (bitI sum k)) := by
  obtain ⟨e0, e1⟩ := bothRow_get _ _ _ e k hk
  have hr := bitI_range sum k
  by_cases h : bitI sum k = 0
  · rw [h]
    unfold pubG at e0
    rw [if_pos (by simpa using h)] at e0
    exact e0
  · have h1 : bitI sum k = 1 := by omega
    rw [h1]
    unfold pubG at e1
    rw [if_pos (by simpa using h1)] at e1
    exact e1
/-- A seed's own signature: all texts are alike. -/
theorem own_texts (seed : ByteArray) (b h leaf : Nat) (sum : IdK) (hl : leaf < 2 ^ h) (pubs : List IdK) (hp : pubs = bothRow (leafPub seed leaf) b) :
    (textsW seed b h leaf (leafOf seed leaf b) (wayOf seed b h leaf) pubs).find? unlikeP = none := by
  rw [List.find?_eq_none]
  have wl : (wayOf seed b h leaf).length = h := by simp [wayOf]
  have cur : ∀ k, k ≤ h → curW leaf (leafOf seed leaf b) (wayOf seed b h leaf) k = nodeOf seed b k (leaf / 2 ^ k) := by
    intro k hk
    have : (wayOf seed b h leaf).take k = wayOf seed b k leaf := by
      unfold wayOf
      rw [← List.map_take, List.take_range, Nat.min_eq_left hk]
    unfold curW
    rw [this, climb_way]
  intro t ht
  unfold textsW at ht
  simp only [List.cons_append, List.mem_cons, List.mem_append, List.mem_reverse, List.mem_map, List.mem_range, List.not_mem_nil, or_false] at ht
  rcases ht with rfl | ⟨k, hk, rfl⟩ | rfl
  · rw [climb_way, Nat.div_eq_of_lt hl]
    simp [unlikeP]
  · rw [wl] at hk
    unfold nodeP sideA sideB
    have e2 : leaf / 2 ^ (k + 1) = leaf / 2 ^ k / 2 := by rw [Nat.pow_succ, Nat.div_div_eq_div_mul]
    have ew : (wayOf seed b h leaf).getD k [] = nodeOf seed b k (beside (leaf / 2 ^ k)) := by simp [wayOf, hk]
    rw [e2, ew, cur k (by omega)]
    unfold beside
    generalize leaf / 2 ^ k = x
    by_cases ho : x % 2 = 1
    · rw [if_pos ho, if_pos ho, if_pos ho, show 2 * (x / 2) = x - 1 by omega, show x - 1 + 1 = x by omega]
      simp [unlikeP]
    · rw [if_neg ho, if_neg ho, if_neg ho, show 2 * (x / 2) = x by omega]
      simp [unlikeP]
  · rw [hp]
    simp [unlikeP]
end Go.Proofs.Ytabkaflccaklhaa
