/- law JournalScans: the walk. -/
import Derived.Test.YtabkaflccaklhaaQJouH
set_option linter.unusedSimpArgs false
set_option linter.unusedVariables false
namespace Go.Proofs.Ytabkaflccaklhaa
open Go.RowKit
open Go.Qk hiding rotr b4
open Pac
set_option maxHeartbeats 4000000
set_option maxRecDepth 100000
def toFm (x : UInt8 × List UInt8) : Int × List UInt8 := ((x.1.toNat : Int), x.2)
theorem toFm_G (l : List (UInt8 × List UInt8)) : (l.map toFm).map fmG = l := by
  rw [List.map_map]
  refine (List.map_congr_left fun x _ => ?_).trans (List.map_id l)
  show (UInt8.ofNat ((x.1.toNat : Int)).toNat, x.2) = x
  rw [Int.toNat_natCast, UInt8.ofNat_toNat]
theorem frCells_fm (l : List (UInt8 × List UInt8)) : frCells l = fmAll (l.map toFm) := by
  unfold frCells fmAll
  rw [List.flatMap_def, List.map_map]
  exact congrArg List.flatten (List.map_congr_left fun x _ => rfl)
theorem fmSize_all : ∀ (l : List (UInt8 × List UInt8)) (c : List UInt8), fmSize (l.map toFm) ≤ 20 * (allF c l).length
  | [], _ => by simp [fmSize]
  | (k, p) :: t, c => by
    have ih := fmSize_all t (nextL c k p)
    have e : allF c ((k, p) :: t) = frameB c k p ++ allF (nextL c k p) t := rfl
    have h1 : p.length + 1 ≤ (frameB c k p).length := by
      unfold frameB textB
      simp only [List.length_cons, List.length_append]
      omega
    have e2 : fmSize (((k, p) :: t).map toFm) = p.length + 20 + fmSize (t.map toFm) := by simp [fmSize, toFm]
    rw [e, e2, List.length_append]
    omega
theorem fmSize_take (fs : List (Int × List UInt8)) (k : Nat) : fmSize (fs.take k) ≤ fmSize fs := by
  have e : fmSize fs = fmSize (fs.take k) + fmSize (fs.drop k) := by
    unfold fmSize
    rw [← List.sum_append, ← List.map_append, List.take_append_drop]
  omega
theorem allF_mem : ∀ (l : List (UInt8 × List UInt8)) (c : List UInt8) (x : UInt8 × List UInt8), x ∈ l → x.2.length ≤ (allF c l).length
  | (k, p) :: t, c, x, hx => by
    have e : allF c ((k, p) :: t) = frameB c k p ++ allF (nextL c k p) t := rfl
    rw [e, List.length_append]
    rcases List.mem_cons.1 hx with rfl | hx
    · unfold frameB textB
      simp only [List.length_cons, List.length_append]
      omega
    · have := allF_mem t (nextL c k p) x hx
      omega
section
variable {ops : Array Oper} {Q : Exit → Act → World → Prop} {rest : List Oper} {o : Oper} {a : Act} {w : World}
theorem opG_loadIdG {x : Operand} {g : Nat} {l : List UInt8} {t : TypeId} {fr : Nat × Nat} (ho : o.op = .load 25 x) (hw : Region.wanted o (yielded ops a.tmps) = true) (hx : a.eval x = .pointer (some ⟨g, 0, none⟩))
    (hg : w.heap[g]? = some (.cells (u8s l).toArray t fr)) (hl : l.length = 32) (h : wpList Try.prog ops Q rest (a.put o.dst (idV l)) w) : wpList Try.prog ops Q (o :: rest) a w :=
  opG_loadB ho hw hx hg Try.underlying25 rfl (by rw [szId]; simp [u8s_length, hl]) h
end
theorem journalScansW (L : List UInt8) (hL9 : L.length ≤ 140737488355328) (w : World) :
    Calls Try.prog 3 #[.string (bs L)] w fun e w' => e = .returned (.bool true) ∧ Below w.heap.size w w' := by
  have hsz := bs_size L
  by_cases hl : 2000 < L.length
  · have hli : (2000 : Int) < (L.length : Int) := by omega
    go_enter Try.func3, Try.ntmps3
    have HB := hid (grow_refl w)
    go_wp2_with fail
    refine (awake25 _).mono ?_
    rintro _ w3 ⟨rfl, hb⟩
    replace HB := hid (Grow.trans HB.out hb)
    clear hb
    go_wp2_with fail
    go_ret
    exact ⟨rfl, HB.out⟩
  have hli : ¬ (2000 : Int) < (L.length : Int) := by omega
  have HSC := hid (fun w => jouScan L (by omega) w)
  have HRC := hid (fun w => refScan25 L (by omega) w)
  obtain ⟨f1, f2, f3, f4, f5⟩ := scanF_len L.length L beginL
  have f6 : (scanR L).2.2.length = 32 := by
    have e : (scanR L).2.2 = chainF beginL (scanR L).1 := f3
    rw [e]; exact chainF_length _ _ beginL_length
  change (scanR L).2.1 ≤ L.length at f1
  change L.take (scanR L).2.1 = allF beginL (scanR L).1 at f2
  change ∀ x ∈ (scanR L).1, _ at f4
  change 2 * (scanR L).1.length ≤ (scanR L).2.1 at f5
  clear f3
  generalize scanR L = R at *
  obtain ⟨l, e, c⟩ := R
  dsimp only at f1 f2 f4 f5 f6 HSC HRC
  have HC := hid f6
  rw [frCells_fm, ← List.length_map (f := toFm)] at HSC HRC
  have hG := toFm_G l
  have hok : ∀ x ∈ l.map toFm, fmOk x := fun x hx => by
    obtain ⟨y, hy, rfl⟩ := List.mem_map.1 hx
    obtain ⟨h1, h2⟩ := f4 y hy
    have h3 := y.1.toNat_lt
    have h4 : y.1.toNat ≠ 0 := fun h => h1 (UInt8.toNat_inj.1 h)
    exact ⟨by show (1 : Int) ≤ (y.1.toNat : Int); omega, by show (y.1.toNat : Int) ≤ 255; omega, h2⟩
  have hel : (allF beginL l).length = e := by rw [← f2, List.length_take]; omega
  have hfz : ∀ k, k ≤ (l.map toFm).length → fmSize ((l.map toFm).take k) ≤ 500000000 := fun k _ => by
    have h1 := fmSize_take (l.map toFm) k
    have h2 := fmSize_all l beginL
    omega
  have hbig : (∃ x ∈ l.map toFm, 300 < x.2.length) → 300 ≤ L.length := by
    rintro ⟨x, hx, h⟩
    obtain ⟨y, hy, rfl⟩ := List.mem_map.1 hx
    have h1 := allF_mem l beginL y hy
    have h2 : 300 < y.2.length := h
    omega
  have hln : (l.map toFm).length ≤ 1000 := by rw [List.length_map]; omega
  generalize hfs : l.map toFm = fs at *
  obtain ⟨n, hn⟩ : ∃ n, fs.length = n := ⟨_, rfl⟩
  have HJA := hid (fun A d w (h : FmRow w A fs) => jouAll A n d fs w h hn hok (by rw [← hn]; exact hfz))
  rw [hG, ← f2] at HJA
  have HN := hid hn
  rw [hn] at HSC HRC hln
  have n9 : n ≤ 9223372036854775807 := by omega
  have HBG := hid hbig
  have HBD := hid (show n * 24 ≤ 140737488355328 by omega)
  have hex : (bs L).extract 0 e = bs (L.take e) := by rw [bs_extract, List.drop_zero, Nat.sub_zero]
  have e0 : (0 : Int) ≤ (e : Int) := by omega
  have e1 : (e : Int) ≤ (L.length : Int) := by omega
  have hq1 : ∀ w, (Go.binOp .neq 25 (idV c) (idV c)).run Try.prog w = .ok (.bool false) w := fun w => by
    have h := id_neq c c HC.out HC.out w
    simpa using h
  have hq2 := id_guard .neq c c
  have HQ1 := hid hq1
  have HQ2 := hid hq2
  clear f1 f2 f4 f5 f6 hG hok hel hfz hbig hfs hn hl hq1 hq2
  generalize L.take e = T at *
  go_enter Try.func3, Try.ntmps3
  have HB := hid (grow_refl w)
  go_wp2_with fail
  refine (HSC.out _).mono ?_
  rintro _ w1 ⟨ov, rfl, ho, hb⟩
  replace HB := hid (Grow.trans HB.out hb)
  clear hb
  obtain ⟨A, d, rfl, hx⟩ := FmRow.own ho HN.out n9
  have HX := hid hx
  clear ho hx
  go_wp2_with (first | (refine op_alloc rfl rfl ?_) | fail)
  intro g5 wa hgl hgu hb hr
  go_wp2_with (first | (refine op_storeId (l := c) rfl rfl rfl rfl rfl hr (by rfl) HC.out ?_) | fail)
  intro wb hW hgr hbel
  have hb2 := hbel _ _ hb hgl
  replace HB := hid (Grow.trans HB.out hb2)
  replace HX := hid (HX.out.grow hb2)
  clear hb2
  have X5 := hid hW
  clear hb hgl hgu hr hW hgr hbel
  go_wp2_with fail
  refine (HRC.out _).mono ?_
  rintro _ w2 ⟨ov2, rfl, ho, hb⟩
  replace HB := hid (Grow.trans HB.out hb)
  replace HX := hid (HX.out.grow hb)
  replace X5 := hid (grow_block X5.out hb)
  clear hb
  obtain ⟨A2, d2, rfl, hy⟩ := FmRow.own ho HN.out n9
  have HY := hid hy
  clear ho hy
  go_wp2_with (first | (refine op_alloc rfl rfl ?_) | fail)
  intro g8 wa hgl hgu hb hr
  go_wp2_with (first | (refine op_storeId (l := c) rfl rfl rfl rfl rfl hr (by rfl) HC.out ?_) | fail)
  intro wb hW hgr hbel
  have hb2 := hbel _ _ hb hgl
  replace HB := hid (Grow.trans HB.out hb2)
  replace HX := hid (HX.out.grow hb2)
  replace X5 := hid (grow_block X5.out hb2)
  replace HY := hid (HY.out.grow hb2)
  clear hb2
  have X8 := hid hW
  clear hb hgl hgu hr hW hgr hbel
  go_wp2_with fail
  refine (plain25 A n d fs _ HX.out HN.out HBD.out).mono ?_
  rintro e3 w3 ⟨hb, hcase⟩
  replace HB := hid (Grow.trans HB.out hb)
  replace HX := hid (HX.out.grow hb)
  replace X5 := hid (grow_block X5.out hb)
  replace HY := hid (HY.out.grow hb)
  replace X8 := hid (grow_block X8.out hb)
  clear hb
  have HFIN : Hid (∃ (M : Option Addr) (m dm : Nat) (ms : List (Int × List UInt8)) (bb : Bool) , e3 = .returned (.tuple #[.slice M m dm, .bool bb]) ∧ FmRow w3 M ms ∧ ms.length = m ∧ (ms = fs ∨ ms ≠ fs ∧ 300 ≤ L.length)) := hid (by
    rcases hcase with ⟨_, v3, rfl, ho⟩ | ⟨hno, rfl⟩
    · obtain ⟨A3, k3, rfl, hm3⟩ := FmRow.own ho HN.out n9
      exact ⟨A3, n, k3, fs, _, rfl, hm3, HN.out, .inl rfl⟩
    · refine ⟨none, 0, 0, [], _, rfl, ⟨by simp, fun h => absurd rfl h⟩, rfl, .inr ?_⟩
      have hex2 : ∃ x ∈ fs, 300 < x.2.length := by
        by_cases h : ∃ x ∈ fs, 300 < x.2.length
        · exact h
        · exact absurd (fun x hx => by
            by_cases h2 : x.2.length ≤ 300
            · exact h2
            · exact absurd ⟨x, hx, by omega⟩ h) hno
      refine ⟨fun h => ?_, HBG.out hex2⟩
      obtain ⟨x, hx, _⟩ := hex2
      rw [← h] at hx
      cases hx)
  clear hcase
  obtain ⟨M, m, dm, ms, bb, rfl, hm1, hm2, hm3⟩ := HFIN.out
  clear HFIN
  have HM := hid hm1
  have HM2 := hid hm2
  have HM3 := hid hm3
  clear hm1 hm2 hm3
  go_wp2_with fail
  refine (refSame25 M A2 m n dm d2 ms fs _ HM.out HY.out HM2.out HN.out).mono ?_
  rintro _ w4 ⟨rfl, hb⟩
  replace HB := hid (Grow.trans HB.out hb)
  replace HX := hid (HX.out.grow hb)
  replace X5 := hid (grow_block X5.out hb)
  replace HY := hid (HY.out.grow hb)
  replace X8 := hid (grow_block X8.out hb)
  replace HM := hid (HM.out.grow hb)
  clear hb
  have hq1 := HQ1.out
  have hq2 := HQ2.out
  have hcond : (decide (ms = fs) = true) ∨ (decide (ms = fs) = false ∧ decide ((L.length : Int) < 300) = false) := by
    rcases HM3.out with h | ⟨h, h2⟩
    · left; simp [h]
    · right; exact ⟨by simp [h], by simp; omega⟩
  generalize decide (ms = fs) = sb at *
  have HCD := hid hcond
  clear hcond
  rcases HCD.out with rfl | ⟨rfl, hl3⟩
  · skip
    go_wp2_with (first | (refine opG_loadIdG rfl rfl rfl X5.out HC.out ?_) | (refine opG_loadIdG rfl rfl rfl X8.out HC.out ?_) |  fail)
    refine (HJA.out A d _ HX.out).mono ?_
    rintro _ w5 ⟨rfl, hb⟩
    replace HB := hid (Grow.trans HB.out hb)
    replace HX := hid (HX.out.grow hb)
    replace X5 := hid (grow_block X5.out hb)
    replace HY := hid (HY.out.grow hb)
    replace X8 := hid (grow_block X8.out hb)
    replace HM := hid (HM.out.grow hb)
    clear hb
    go_wp2_with fail
    refine (awake25 _).mono ?_
    rintro _ w6 ⟨rfl, hb⟩
    replace HB := hid (Grow.trans HB.out hb)
    replace HX := hid (HX.out.grow hb)
    replace X5 := hid (grow_block X5.out hb)
    replace HY := hid (HY.out.grow hb)
    replace X8 := hid (grow_block X8.out hb)
    replace HM := hid (HM.out.grow hb)
    clear hb
    go_wp2_with fail
    go_ret
    exact ⟨rfl, HB.out⟩
  · skip
    go_wp2_with (first | (refine opG_loadIdG rfl rfl rfl X5.out HC.out ?_) | (refine opG_loadIdG rfl rfl rfl X8.out HC.out ?_) |  fail)
    refine (HJA.out A d _ HX.out).mono ?_
    rintro _ w5 ⟨rfl, hb⟩
    replace HB := hid (Grow.trans HB.out hb)
    replace HX := hid (HX.out.grow hb)
    replace X5 := hid (grow_block X5.out hb)
    replace HY := hid (HY.out.grow hb)
    replace X8 := hid (grow_block X8.out hb)
    replace HM := hid (HM.out.grow hb)
    clear hb
    go_wp2_with fail
    refine (awake25 _).mono ?_
    rintro _ w6 ⟨rfl, hb⟩
    replace HB := hid (Grow.trans HB.out hb)
    replace HX := hid (HX.out.grow hb)
    replace X5 := hid (grow_block X5.out hb)
    replace HY := hid (HY.out.grow hb)
    replace X8 := hid (grow_block X8.out hb)
    replace HM := hid (HM.out.grow hb)
    clear hb
    go_wp2_with fail
    go_ret
    exact ⟨rfl, HB.out⟩
theorem journalScansB (s : ByteArray) (hs : s.size ≤ 140737488351232) (w : World) : Calls Try.prog 3 #[.string s] w fun e w' => e = .returned (.bool true) ∧ Below w.heap.size w w' := by
  have h := journalScansW (bl s) (by rw [bl_length]; omega) w
  rw [bs_bl] at h
  exact h
end Go.Proofs.Ytabkaflccaklhaa
