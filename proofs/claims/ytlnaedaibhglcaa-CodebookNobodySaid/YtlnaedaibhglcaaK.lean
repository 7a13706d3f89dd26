/- Contracts: size, has. -/
import Derived.Test.YtlnaedaibhglcaaRows
import Derived.Test.YtlnaedaibhglcaaD
import Derived.Outline
import Derived.IntWalk
namespace Go.Proofs.Ytlnaedaibhglcaa
open Go.RowKit

def letters : ByteArray := { data := #[73, 83, 88, 88, 88, 88, 88, 88, 88, 84, 90, 88, 88, 90, 88, 88, 88, 88, 88, 88, 88, 88, 90, 88, 88, 88, 88, 88, 88, 88, 88, 88, 66, 70, 70, 72, 73, 66, 68, 71, 70, 70, 68, 71, 68, 66, 66, 66, 65, 65, 65, 66, 66, 66, 66, 66, 66, 66, 67, 68, 75, 66, 72, 70, 73, 66, 67, 67, 67, 67, 67, 67, 67, 67, 67, 67, 67, 67, 67, 67, 67, 67, 67, 67, 67, 67, 67, 67, 68, 67, 68, 73, 79, 73, 74, 66, 75, 65, 66, 65, 66, 65, 66, 66, 66, 65, 67, 67, 66, 66, 66, 65, 66, 67, 66, 65, 65, 66, 67, 67, 67, 67, 67, 75, 71, 74, 73, 88, 80, 82, 80, 80, 82, 82, 82, 83, 82, 83, 83, 83, 83, 83, 84, 83, 84, 84, 82, 83, 84, 83, 83, 83, 83, 81, 82, 83, 82, 83, 83, 84, 82, 81, 80, 82, 82, 83, 83, 81, 83, 82, 82, 84, 81, 82, 83, 83, 81, 81, 82, 81, 83, 82, 83, 83, 80, 82, 82, 82, 83, 82, 82, 83, 86, 86, 80, 79, 82, 83, 82, 85, 86, 86, 86, 87, 87, 86, 84, 85, 79, 81, 86, 87, 87, 86, 87, 84, 81, 81, 86, 86, 88, 87, 87, 87, 80, 84, 80, 81, 82, 81, 81, 83, 82, 82, 85, 85, 84, 84, 86, 83, 86, 87, 86, 86, 87, 87, 87, 87, 87, 88, 87, 87, 87, 87, 87, 86, 90] }
theorem letters_size : letters.size = 257 := by decide +kernel
theorem letters_len : letters.data.toList.length = 257 := by decide +kernel
theorem letters_at : ∀ k, k < 257 → letters.data.toList[k]? = some (UInt8.ofNat (60 + sz k)) := by decide +kernel
theorem letters_run (k : Nat) (h : k < 257) (w : World) : (Instr.index 9 (.string letters) (.int .i64 k)).run Try.prog w = .ok (.int .u8 ((60 + sz k : Nat) : Int)) w := by
  rw [run_index_string (P := Try.prog) w 9 letters .i64 k Try.underlying9, dif_pos ⟨by omega, by rw [letters_size]; omega⟩]
  have h1 := letters_at k h
  have h2 : letters[((k : Nat) : Int).toNat]'(by rw [letters_size]; omega) = UInt8.ofNat (60 + sz k) := by
    have hk : ((k : Nat) : Int).toNat = k := by omega
    have h3 : letters.data.toList[k]? = some (letters[k]'(by rw [letters_size]; omega)) := by
      rw [List.getElem?_eq_getElem (by rw [letters_len]; exact h)]
      rfl
    rw [h3] at h1
    simp only [hk]
    exact Option.some.inj h1
  rw [h2]
  have := (sz_all k h)
  have e : (UInt8.ofNat (60 + sz k)).toNat = 60 + sz k := by
    rw [UInt8.toNat_ofNat']; omega
  rw [e]

set_option maxRecDepth 100000 in
theorem size_q (k : Nat) (w : World) (h : k < 257) : Calls Try.prog 18 #[.int .i64 k] w fun e w' => e = .returned (.int .i64 (sz k : Nat)) ∧ w = w' := by
  have hidx := letters_run k h
  obtain ⟨h1, h2⟩ := sz_all k h
  go_enter Try.func18, Try.ntmps18
  change Code.wp _ _ _ _ _
  generalize hl : ByteArray.mk _ = LL
  have hL : LL = letters := by rw [← hl]; kernel_rfl
  clear hl
  subst hL
  go_wp2_with fail
  go_ret
  refine ⟨?_, rfl⟩
  show Ending.returned (.int .i64 (60 + (sz k : Int) - 65 + 5)) = _
  exact ret_int (by omega)

/-! ### has -/
theorem has_nil (s : Int) (w : World) : Calls Try.prog 19 #[.pointer none, .int .i64 s] w fun e w' => e = .returned (.bool false) ∧ w = w' := by
  go_enter Try.func19, Try.ntmps19
  go_wp2_with fail
  go_ret
  exact ⟨rfl, rfl⟩
theorem has_zero (g : Nat) (s : Int) (w : World) (h : w.cell? ⟨g, 0, none⟩ = some (.bool false)) : Calls Try.prog 19 #[.pointer (some ⟨g, 0, none⟩), .int .i64 s] w fun e w' => e = .returned (.bool false) ∧ w = w' := by
  go_enter Try.func19, Try.ntmps19
  go_wp2_with fail
  go_ret
  exact ⟨rfl, rfl⟩
theorem has_yes (g : Nat) (s : Int) (w : World) (h : w.cell? ⟨g, 0, none⟩ = some (.bool true)) (h1 : 0 ≤ s) (h2 : s ≤ 256) : Calls Try.prog 19 #[.pointer (some ⟨g, 0, none⟩), .int .i64 s] w fun e w' => e = .returned (.bool true) ∧ w = w' := by
  go_enter Try.func19, Try.ntmps19
  go_wp2_with fail
  go_ret
  exact ⟨rfl, rfl⟩
theorem has_no (g : Nat) (s : Int) (w : World) (h : w.cell? ⟨g, 0, none⟩ = some (.bool true)) (h1 : s < 0 ∨ 256 < s) : Calls Try.prog 19 #[.pointer (some ⟨g, 0, none⟩), .int .i64 s] w fun e w' => e = .returned (.bool false) ∧ w = w' := by
  rcases h1 with h1 | h1
  all_goals
    go_enter Try.func19, Try.ntmps19
    go_wp2_with fail
    go_ret
    exact ⟨ret_bool (by first | (simp; done) | (simp; omega)), rfl⟩
end Go.Proofs.Ytlnaedaibhglcaa
