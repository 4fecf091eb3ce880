import Derived.Test.YtkibibgbmkejjaaQWord
import Derived.Test.YtkibibgbmkejjaaQTagP
set_option linter.unusedSimpArgs false
set_option linter.unusedVariables false
namespace Go.Proofs.Ytkibibgbmkejjaa
open Go.RowKit Go.Qk

set_option maxHeartbeats 400000
set_option maxRecDepth 100000
theorem tagText_long (name : ByteArray) (v : Value) (hname : 255 < name.size) (w : World) :
    Calls Try.prog 39 #[.string name, v] w fun e w' => e = .returned (.tuple #[.string (bs []), .int .i64 4]) ∧ Below w.heap.size w w' := by
  go_enter Try.func39, Try.ntmps39
  go_wp2
  go_ret2
  exact ⟨rfl, Below.refl _ _⟩



theorem tagText (name : ByteArray) (A : Option Addr) (n c : Nat) (xs : List ByteArray) (w : World) (hx : StrRow w A xs) (hn : xs.length = n) (hname : name.size ≤ 255) (hlen : (textOf name xs).length ≤ 140737488355328) :
    Calls Try.prog 39 #[.string name, .slice A n c] w fun e w' => e = .returned (.tuple #[.string (bs (textOf name xs)), .int .i64 0]) ∧ Below w.heap.size w w' := by
  subst hn
  have HX := hid hx
  have HL := hid hlen
  have hxl := hx.1
  clear hx hlen
  go_enter Try.func39, Try.ntmps39
  have hsz : (name.size : Int) % 256 = name.size := by omega
  go_wp2_with (at_builtin; refine app_str (w0 := w) (B := w.heap.size) (.tmp 18) (.tmp 19) 112 9 5 _ [UInt8.ofNat name.size] name rfl rfl Try.underlying112 Try.underlying9 infoU8 rfl rfl ?h1 ?h2 ?h3 ?h4 ?_)
  case h1 =>
    have := buf_alloc w 5 [UInt8.ofNat name.size] 1 rfl (by simp [maxLen])
    simp only [u8s, List.map_cons, List.map_nil, u8_of name.size (by omega)] at this
    exact this
  case h2 => exact (Below.refl _ _).alloc (Nat.le_refl _) _
  case h3 => simp
  case h4 => simp; omega
  intro v1 w1 hown1 hb1 hs1
  have HO := hid hown1
  have HB := hid hb1
  have HS := hid hs1
  clear hown1 hb1 hs1
  go_wp2
  go_loopg [6, 23] (xs.length + 1) (fun n v i wr => ∃ k : Nat, k ≤ xs.length ∧ n = xs.length - k + 1 ∧ i = .int .i64 k ∧ Hid (Buf 5 w.heap.size wr v (textOf name (xs.take k))) ∧ Hid (Below w.heap.size w wr) ∧ Hid (w.heap.size ≤ wr.heap.size) ∧ Hid (Grow w1 wr → True))
  case atStart => exact ⟨0, by omega, by omega, rfl, by rw [textOf_nil]; exact HO, HB, HS, fun _ => trivial⟩
  case round =>
    obtain ⟨k, hk, hn, rfl, hO, hB, hS, _⟩ := hrel
    by_cases hlt : k < xs.length
    · have k0 : (0 : Int) ≤ (k : Int) := by omega
      have k1 : (k : Int) < (xs.length : Int) := by omega
      obtain ⟨ad, rfl, hc⟩ := HX.out.at_ k hlt
      have hc' : wr.cell? (ad.add k) = some (.string (xs.getD k ByteArray.empty)) := (hB.out.cell (block_lt_of_cell hc)).trans hc
      have hsz2 : (xs.getD k ByteArray.empty).size ≤ 140737488355328 := by
        have h1 := textOf_take_le name xs (k + 1)
        rw [textOf_snoc name xs k hlt] at h1
        simp only [List.length_append, bl_length] at h1
        have := HL.out
        omega
      generalize hs : xs.getD k ByteArray.empty = s at *
      have HSK := hid hs
      clear hs
      go_wp2_with fail
      refine (number8 s.size (by omega) wr).mono ?_
      rintro e w2 ⟨rfl, hb2⟩
      have HO2 := hid (hO.out.grow hb2)
      have HB2 := hid (below_grow hB.out hS.out hb2)
      have HS2 := hid (Nat.le_trans hS.out hb2.size)
      have hlen8 : (bs (be 8 s.size)).size = 8 := by rw [bs_size, be_length]
      generalize hq : bs (be 8 s.size) = q at *
      have HQ := hid hq
      clear hb2 hq hc'
      go_wp2_with (at_builtin; refine app_str (w0 := w) (B := w.heap.size) (.tmp 34) (.tmp 37) 112 9 5 _ (textOf name (xs.take k)) (q ++ s) rfl rfl Try.underlying112 Try.underlying9 infoU8 rfl rfl ?h1 ?h2 ?h3 ?h4 ?_)
      case h1 => exact HO2.out
      case h2 => exact HB2.out
      case h3 => exact HS2.out
      case h4 =>
        have h1 := textOf_take_le name xs (k + 1)
        rw [textOf_snoc name xs k hlt, HSK.out] at h1
        simp only [List.length_append, be_length, bl_length] at h1
        have := HL.out
        simp only [ByteArray.size_append]
        omega
      intro v3 w3 hown3 hb3 hs3
      have e3 : textOf name (xs.take k) ++ bl (q ++ s) = textOf name (xs.take (k + 1)) := by
        rw [textOf_snoc name xs k hlt, HSK.out, bl_append, ← HQ.out, bl_bs]
      rw [e3] at hown3
      have HO3 := hid hown3
      have HB3 := hid hb3
      have HS3 := hid hs3
      clear e3 hown3 hb3 hs3
      go_wp2
      go_roundg (xs.length - (k + 1) + 1)
      case rel => exact ⟨k + 1, by omega, rfl, by go_num, HO3, HB3, HS3, fun _ => trivial⟩
      case measure => omega
    · have hcv := buf_str (P := Try.prog) 112 5 9 Try.underlying112 Try.underlying5 Try.underlying9 _ _ hO.out
      have HE := hid (textOf_all name xs k (by omega))
      rw [HE.out] at hcv
      go_wp2
      go_ret2
      exact ⟨rfl, hB.out⟩
end Go.Proofs.Ytkibibgbmkejjaa
