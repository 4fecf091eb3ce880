import Derived.Test.YtfkfhhkggpfcgaaQLaw02b
set_option linter.unusedSimpArgs false
set_option linter.unusedVariables false
namespace Go.Proofs.Ytfkfhhkggpfcgaa
open Go.RowKit
open Go.Qk hiding rotr b4
set_option maxHeartbeats 1000000
set_option maxRecDepth 100000
theorem rest_rest (l m : List UInt8) : restOf (restOf l ++ m) = restOf (l ++ m) := by
  have hr : (restOf l ++ m) = (l ++ m).drop (64 * (l.length / 64)) := by
    rw [restOf, List.drop_append_of_le_length (by omega)]
  rw [hr]
  unfold restOf
  rw [List.drop_drop, List.length_drop, List.length_append]
  congr 1
  omega
theorem id_neq_self (F : List UInt8) (hF : F.length = 32) (w : World) : (Go.binOp .neq 35 (idV F) (idV F)).run Try.prog w = .ok (.bool false) w := by
  have := id_neq F F hF hF w
  rw [beq_self_eq_true] at this
  exact this
theorem shaParts (A : Option Addr) (n c : Nat) (xs : List ByteArray) (w : World) (hx : StrRow w A xs) (hn : xs.length = n) :
    Calls Try.prog 14 #[.slice A n c] w fun e w' => e = .returned (.bool true) ∧ Below w.heap.size w w' := by
  subst hn
  have HX := hid hx
  clear hx
  by_cases hlt : 20 < xs.length
  · have t1 : decide ((20 : Int) < (xs.length : Int)) = true := by simp; omega
    go_enter Try.func14, Try.ntmps14
    go_wp2_with fail
    refine (awake02 _).mono ?_
    rintro e w1 ⟨rfl, hb⟩
    have HB := hid hb
    clear hb
    go_wp2
    go_ret
    exact ⟨rfl, HB.out⟩
  · have t1 : decide ((20 : Int) < (xs.length : Int)) = false := by simp; omega
    have t2 : ¬ (20 : Int) < (xs.length : Int) := by omega
    have hx20 : xs.length ≤ 20 := by omega
    clear hlt
    go_enter Try.func14, Try.ntmps14
    go_wp2_with fail
    refine (shaNew _).mono ?_
    rintro e w1 ⟨g, rfl, hg, hI, hb⟩
    have HG := hid hg
    have HI1 : Hid (IsHash w1 g (feed shaH []) (bs (restOf [])) (([] : List UInt8).length : Int)) := hI
    have HB1 := hid hb
    clear hg hI hb t1 t2
    go_wp2_with fail
    go_loopg [4, 16] (xs.length + 1) (fun q v i wr => ∃ (k : Nat) (p : List UInt8), k ≤ xs.length ∧ q = xs.length + 1 - k ∧ i = .int .i64 k ∧ v = .string (bs p) ∧ p.length ≤ 200 * k ∧ Hid (IsHash wr g (feed shaH p) (bs (restOf p)) (p.length : Int)) ∧ Hid (Grow w wr))
    case atStart => exact ⟨0, [], by omega, rfl, rfl, rfl, by simp, HI1, HB1⟩
    case round =>
      clear HI1 HB1
      obtain ⟨k, p, hk, hq, rfl, rfl, hp, hI, hB⟩ := hrel
      have hps := bs_size p
      by_cases hlt : k < xs.length
      · have t1 : (k : Int) < (xs.length : Int) := by omega
        have t0 : (0 : Int) ≤ (k : Int) := by omega
        obtain ⟨ad, rfl, hc⟩ := (HX.out.grow hB.out).at_ k hlt
        obtain ⟨m, hm⟩ : ∃ m, xs.getD k ByteArray.empty = bs m := ⟨bl (xs.getD k ByteArray.empty), (bs_bl _).symm⟩
        rw [hm] at hc
        clear hm
        have hms := bs_size m
        by_cases h2 : 200 < m.length
        · have t3 : decide ((200 : Int) < (m.length : Int)) = true := by simp; omega
          go_wp2_with fail
          refine (awake02 _).mono ?_
          rintro e w1 ⟨rfl, hb⟩
          have HB := hid (Grow.trans hB.out hb)
          clear hb
          go_wp2
          go_ret
          exact ⟨rfl, HB.out⟩
        · have t3 : decide ((200 : Int) < (m.length : Int)) = false := by simp; omega
          have t4 : ¬ (200 : Int) < (m.length : Int) := by omega
          have hrl := restOf_length p
          go_wp2_with fail
          refine (shaWrite g (feed shaH p) (restOf p) m p.length (feed_length _ _ rfl) (by omega) (by omega) _ hI.out).mono ?_
          rintro e w2 ⟨rfl, hI2, hn2⟩
          rw [feed_feed, rest_rest, ← List.length_append] at hI2
          have HI2 := hid hI2
          have HB2 : Hid (Grow w w2) := Below.grown hB.out hn2 hB.out.size (fun k hk => by have := HG.out; injection hk with hk; omega)
          have hcat := bs_append p m
          have hpm : (p ++ m).length ≤ 200 * (k + 1) := by rw [List.length_append]; omega
          clear hI2 hn2 hI hB hc hrl
          have HCAT := hid hcat
          have hzz : (bs p).size + (bs m).size ≤ 100000 := by omega
          generalize hpq : p ++ m = pm at *
          have hpms := bs_size pm
          go_wp2_with fail
          refine (shaHashSum g (feed shaH pm) (restOf pm) pm.length (feed_length _ _ rfl) (restOf_length pm) (by omega) _ HI2.out).mono ?_
          rintro e w3 ⟨rfl, hb3⟩
          rw [show finish (feed shaH pm) (restOf pm) pm.length = shaOf pm from rfl]
          have HI3 := hid (hash_grow HI2.out hb3)
          have HB3 := hid (Grow.trans HB2.out hb3)
          clear hb3 HI2 HB2 hcat hpq HCAT hzz hps hms
          go_wp2_with fail
          refine (refSum pm (by omega) _).mono ?_
          rintro e w4 ⟨rfl, hb4⟩
          have HI4 := hid (hash_grow HI3.out hb4)
          have HB4 := hid (Grow.trans HB3.out hb4)
          clear hb4 HI3 HB3
          have heq := id_neq_self (shaOf pm) (shaOf_length _)
          have hgd := id_guard .neq (shaOf pm) (shaOf pm)
          generalize shaOf pm = F at *
          generalize idV F = V at *
          go_wp2_with fail
          refine (shaLen g (feed shaH pm) (bs (restOf pm)) pm.length (feed_length _ _ rfl) _ HI4.out).mono ?_
          rintro e w5 ⟨rfl, hb5⟩
          have HI5 := hid (hash_grow HI4.out hb5)
          have HB5 := hid (Grow.trans HB4.out hb5)
          clear hb5 HI4 HB4
          go_wp2
          go_roundg (xs.length + 1 - (k + 1))
          case rel => exact ⟨k + 1, pm, by omega, rfl, by go_num, rfl, hpm, HI5, HB5⟩
          case measure => omega
      · obtain rfl : k = xs.length := by omega
        go_wp2_with fail
        refine (shaHashSum g (feed shaH p) (restOf p) p.length (feed_length _ _ rfl) (restOf_length p) (by omega) _ hI.out).mono ?_
        rintro e w3 ⟨rfl, hb3⟩
        rw [show finish (feed shaH p) (restOf p) p.length = shaOf p from rfl]
        have HB3 := hid (Grow.trans hB.out hb3)
        clear hb3 hI hB
        go_wp2_with fail
        refine (shaSum p (by omega) _).mono ?_
        rintro e w4 ⟨rfl, hb4⟩
        have HB4 := hid (Grow.trans HB3.out hb4)
        clear hb4 HB3
        have heq := id_eql_self (shaOf p) (shaOf_length _)
        have hgd := id_guard .eql (shaOf p) (shaOf p)
        generalize shaOf p = F at *
        generalize idV F = V at *
        go_wp2_with fail
        refine (awake02 _).mono ?_
        rintro e w5 ⟨rfl, hb5⟩
        have HB5 := hid (Grow.trans HB4.out hb5)
        clear hb5
        go_wp2
        go_ret
        exact ⟨rfl, HB5.out⟩
end Go.Proofs.Ytfkfhhkggpfcgaa
