/- More contracts: Is, Same, Text, and the chapter's example. -/
import Derived.Test.YtngcjgnbehbdfaaK
namespace Go.Proofs.Ytngcjgnbehbdfaa
open Go.RowKit

def bytesOf (xs : List Int) : List UInt8 := xs.map fun n => UInt8.ofNat n.toNat
theorem str_txt {xs : List Int} (hw : ∀ x ∈ xs, 0 ≤ x ∧ x ≤ 255) : ((strOfNums xs).toList == [80, 82, 73, 32, 42, 32, 72, 84, 84, 80, 47, 50, 46, 48, 13, 10, 13, 10, 83, 77, 13, 10, 13, 10]) = (xs == txt) := by
  rw [toList_nums, show ([80, 82, 73, 32, 42, 32, 72, 84, 84, 80, 47, 50, 46, 48, 13, 10, 13, 10, 83, 77, 13, 10, 13, 10] : List UInt8) = bytesOf txt from by decide]
  rw [Bool.eq_iff_iff]
  simp only [beq_iff_eq]
  exact ⟨fun h => nums_inj _ _ hw (by decide) h, fun h => by rw [h]; rfl⟩

theorem is_any (A : Option Addr) (c : Nat) (xs : List Int) (w : World) (hs : Sees w A (xs.map (Value.int .u8))) (hm : xs.length ≤ 1000000) (hw : ∀ x ∈ xs, 0 ≤ x ∧ x ≤ 255) :
    Calls Try.prog 8 #[.slice A xs.length c] w fun e w' => e = .returned (.bool (xs == txt)) ∧ w = w' := by
  have hcv := conv_sees (P := Try.prog) c 22 5 9 Try.underlying22 Try.underlying5 Try.underlying9 hs
  have HW := hide hw
  clear hw
  go_enter Try.func8, Try.ntmps8
  go_wp2
  go_ret
  exact ⟨ret_bool (str_txt HW.out), rfl⟩

theorem same_any (A B : Option Addr) (c d : Nat) (xs ys : List Int) (w : World) (hs : Sees w A (xs.map (Value.int .u8))) (ht : Sees w B (ys.map (Value.int .u8))) (hm : xs.length ≤ 1000000) (hn : ys.length ≤ 1000000) :
    Calls Try.prog 10 #[.slice A xs.length c, .slice B ys.length d] w fun e w' => e = .returned (.bool (xs == ys)) ∧ Below w.heap.size w w' := by
  by_cases hl : xs.length = ys.length
  · have hl1 : xs.length ≤ ys.length := by omega
    have hl2 : ys.length ≤ xs.length := by omega
    have HL := hide hl
    clear hl
    go_enter Try.func10, Try.ntmps10
    go_wp2
    go_loopw [5] (fun i wr => ∃ k : Nat, k ≤ xs.length ∧ i = .int .i64 k ∧ Hid (xs.take k = ys.take k) ∧ Below w.heap.size w wr) (fun i _ => xs.length - (intOf i).toNat)
    case atStart => exact ⟨0, Nat.zero_le _, rfl, rfl, Below.refl _ _⟩
    case round =>
      obtain ⟨k, hk, rfl, HA, hbel⟩ := hrel
      by_cases hlt : k < xs.length
      · have hlt' : k < ys.length := by omega
        obtain ⟨b, o, rfl, hc⟩ := (hs.kept hbel) k _ (u8_at hlt)
        obtain ⟨b', o', rfl, hc'⟩ := (ht.kept hbel) k _ (u8_at hlt')
        have i1 : (k : Int) < (xs.length : Int) := by omega
        have i2 : (k : Int) < (ys.length : Int) := by omega
        have i3 : (0 : Int) ≤ (k : Int) := by omega
        by_cases he : xs[k] = ys[k]
        · have e1 : (xs[k] != ys[k]) = false := by simpa using he
          have HN := hide (show xs.take (k + 1) = ys.take (k + 1) from by rw [List.take_succ_eq_append_getElem hlt, List.take_succ_eq_append_getElem hlt', HA.out, he])
          clear he
          go_wp2
          go_quiet (fail)
          go_wp2
          go_roundw
          case rel => exact ⟨k + 1, by omega, by go_num, HN, below_drewN hbel _⟩
          case measure => simp [intOf]; omega
        · have e1 : (xs[k] != ys[k]) = true := by simpa using he
          have HN := hide (show (xs == ys) = false from by rw [beq_eq_false_iff_ne]; rintro rfl; exact he rfl)
          clear he
          go_wp2
          go_quiet (fail)
          go_wp2
          go_ret
          exact ⟨ret_bool HN.out.symm, below_drewN hbel _⟩
      · go_wp2
        go_ret
        have h1 := HA.out
        rw [List.take_of_length_le (by omega), List.take_of_length_le (by omega)] at h1
        exact ⟨ret_bool (by rw [h1]; simp), hbel⟩
  · have HN := hide (show (xs == ys) = false from by rw [beq_eq_false_iff_ne]; rintro rfl; exact hl rfl)
    have hl' : ((xs.length : Int) != (ys.length : Int)) = true := by simp; omega
    clear hl
    go_enter Try.func10, Try.ntmps10
    go_wp2
    go_ret
    exact ⟨ret_bool HN.out.symm, Below.refl _ _⟩

theorem Try.info5 : (Try.prog.info? 5).map (fun i => (i.zero, i.size, i.bytes)) = some (some (.int .u8 0), 1, 1) := by kernel_rfl

theorem sees_txt {w : World} {g : Nat} {zs : Array Value} (h : Blk w g 5 (txtCells ++ zs)) : Sees w (some ⟨g, 0, none⟩) (txt.map (Value.int .u8)) := by
  have h1 := (Sees.of_blk h).take 24
  have e : (txtCells ++ zs).toList.take 24 = txt.map (Value.int .u8) := by
    rw [Array.toList_append, txtCells_list]
    rfl
  rwa [e] at h1

theorem text_any (w : World) : Calls Try.prog 11 #[] w fun e w' => ∃ A c, e = .returned (.slice A 24 c) ∧ Sees w' A (txt.map (Value.int .u8)) ∧ Below w.heap.size w w' := by
  go_enter Try.func11, Try.ntmps11
  go_wp2_with fail
  go_ret
  exact ⟨_, _, rfl, sees_txt (Blk.born _ _ _), ((Below.refl _ _).alloc (Nat.le_refl _) _).drew⟩

theorem alive_any (w : World) : Calls Try.prog 5 #[] w fun e w' => e = .returned (.bool true) ∧ Below w.heap.size w w' := by
  have kc := fun (w : World) (C : Array Value) (n c : Nat) => Lib.run_convert_bytes_const (P := Try.prog) w 22 5 C n c Try.underlying22 Try.underlying5
  go_enter Try.func5, Try.ntmps5
  go_wp2_with fail
  refine (like_any _ _ [80, 82, 74] _ (Sees.born _ _ _ _) (by decide)).mono ?_
  rintro e w1 ⟨rfl, hb⟩
  have hb1 := below_base1 hb
  clear hb
  have e1 : (cp [80, 82, 74] txt : Int) = 2 := by decide
  rw [e1]
  clear e1
  go_wp2_with fail
  refine (text_any _).mono ?_
  rintro e w2 ⟨A, c, rfl, hs, hb⟩
  have hb2 := below_next hb1 hb
  clear hb
  go_wp2_with fail
  refine (rtext_any _).mono ?_
  rintro e w3 ⟨rfl, hw3⟩
  have hb3 : Below w2.heap.size w2 w3 := by rw [hw3]; exact (Below.refl _ _).alloc (Nat.le_refl _) _
  have hs3 := hs.kept hb3
  have hB3 : Blk w3 w2.heap.size 5 (txtCells ++ #[]) := by rw [hw3]; exact Blk.born _ _ _
  have hb4 := below_next hb2 hb3
  clear hw3
  go_wp2_with fail
  refine (same_any A _ c 24 txt txt _ hs3 (sees_txt hB3) (by decide) (by decide)).mono ?_
  rintro e w5 ⟨rfl, hb⟩
  have hb5 := below_next hb4 hb
  clear hb
  have e1 : (txt == txt) = true := by decide
  rw [e1]
  clear e1
  go_wp2_with fail
  go_ret
  exact ⟨rfl, hb5⟩
end Go.Proofs.Ytngcjgnbehbdfaa
