/- Get on every input; the chapter's examples; the first two laws' walks. -/
import Derived.Test.YtpkdmbdmfokkiaaI
namespace Go.Proofs.Ytpkdmbdmfokkiaa
open Go.RowKit

theorem get_any (A : Option Addr) (c : Nat) (bits : Int) (l : List Int) (w : World) (hs : Sees w A (l.map (Value.int .u8))) (hm : l.length ≤ 1000000) (hw : ∀ x ∈ l, 0 ≤ x ∧ x ≤ 255) :
    Calls Try.prog 10 #[.slice A l.length c, .int .i64 bits] w (GetPost (getS l bits) w) := by
  by_cases hb : bits < 1 ∨ 8 < bits
  · rw [getS, if_pos hb]; exact get_nobits _ _ _ _ _ hb
  · obtain ⟨b, rfl⟩ : ∃ b : Nat, bits = b := ⟨bits.toNat, by omega⟩
    rw [getS, if_neg hb, Int.toNat_natCast]
    cases l with
    | nil => rw [if_pos rfl]; exact get_empty A c b w (by omega) (by omega)
    | cons z l =>
      rw [if_neg (by simp)]
      split
      · rename_i hf; exact get_small A c b (z :: l) w (by omega) (by omega) hs (by simp) hm hw hf
      · rename_i hf; exact get_go A c b (z :: l) w (by omega) (by omega) hs (by simp) hm hw hf
theorem rget_any (A : Option Addr) (c : Nat) (bits : Int) (l : List Int) (w : World) (hs : Sees w A (l.map (Value.int .u8))) (hm : l.length ≤ 1000000) (hw : ∀ x ∈ l, 0 ≤ x ∧ x ≤ 255) :
    Calls Try.prog 11 #[.slice A l.length c, .int .i64 bits] w (GetPost (getS l bits) w) := by
  by_cases hb : bits < 1 ∨ 8 < bits
  · rw [getS, if_pos hb]; exact rget_nobits _ _ _ _ _ hb
  · obtain ⟨b, rfl⟩ : ∃ b : Nat, bits = b := ⟨bits.toNat, by omega⟩
    rw [getS, if_neg hb, Int.toNat_natCast]
    cases l with
    | nil => rw [if_pos rfl]; exact rget_empty A c b w (by omega) (by omega)
    | cons z l =>
      rw [if_neg (by simp)]
      split
      · rename_i hf; exact rget_small A c b (z :: l) w (by omega) (by omega) hs (by simp) hm hw hf
      · rename_i hf; exact rget_go A c b (z :: l) w (by omega) (by omega) hs (by simp) hm hw hf

theorem get_q (A : Option Addr) (n c : Nat) (bits : Int) (l : List Int) (w : World) (hn : l.length = n) (hs : Sees w A (l.map (Value.int .u8))) (hm : n ≤ 1000000) (hw : Hid (∀ x ∈ l, 0 ≤ x ∧ x ≤ 255)) (x y z : Int) (hx : Hid (getS l bits = (x, y, z))) :
    Calls Try.prog 10 #[.slice A n c, .int .i64 bits] w fun e w' => e = .returned (.tuple #[.int .i64 x, .int .i64 y, .int .i64 z]) ∧ Below w.heap.size w w' := by
  subst hn
  refine (get_any A c bits l w hs hm hw).mono fun e w' h => ?_
  rw [hx.out] at h; exact h
theorem rget_q (A : Option Addr) (n c : Nat) (bits : Int) (l : List Int) (w : World) (hn : l.length = n) (hs : Sees w A (l.map (Value.int .u8))) (hm : n ≤ 1000000) (hw : Hid (∀ x ∈ l, 0 ≤ x ∧ x ≤ 255)) (x y z : Int) (hx : Hid (getS l bits = (x, y, z))) :
    Calls Try.prog 11 #[.slice A n c, .int .i64 bits] w fun e w' => e = .returned (.tuple #[.int .i64 x, .int .i64 y, .int .i64 z]) ∧ Below w.heap.size w w' := by
  subst hn
  refine (rget_any A c bits l w hs hm hw).mono fun e w' h => ?_
  rw [hx.out] at h; exact h
def PutQ (l : List Int) (n : Nat) (z : Int) (w : World) (e : Ending) (w' : World) : Prop :=
  ∃ A c, e = .returned (.tuple #[.slice A n c, .int .i64 z]) ∧ Sees w' A (l.map (Value.int .u8)) ∧ Below w.heap.size w w'
def PutC (l : List Int) (n : Nat) (z : Int) (w : World) (e : Ending) (w' : World) : Prop :=
  ∃ A c, e = .returned (.tuple #[.slice A n c, .int .i64 z]) ∧ n ≤ c ∧ Sees w' A (l.map (Value.int .u8)) ∧ Below w.heap.size w w'
theorem put_c (first bits n : Int) (w : World) (l : List Int) (k : Nat) (z : Int) (h : Hid (putS first bits n = (l, z))) (hk : l.length = k) : Calls Try.prog 6 #[.int .i64 first, .int .i64 bits, .int .i64 n] w (PutC l k z w) := by
  subst hk
  refine (put_any first bits n w).mono fun e w' h' => ?_
  rw [h.out] at h'; exact h'
theorem put_q (first bits n : Int) (w : World) (l : List Int) (k : Nat) (z : Int) (h : Hid (putS first bits n = (l, z))) (hk : l.length = k) : Calls Try.prog 6 #[.int .i64 first, .int .i64 bits, .int .i64 n] w (PutQ l k z w) := by
  subst hk
  refine (put_any first bits n w).mono fun e w' h' => ?_
  rw [h.out] at h'
  obtain ⟨A, c, he, _, h2, h3⟩ := h'
  exact ⟨A, c, he, h2, h3⟩
theorem rput_q (first bits n : Int) (w : World) (l : List Int) (k : Nat) (z : Int) (h : Hid (putS first bits n = (l, z))) (hk : l.length = k) : Calls Try.prog 7 #[.int .i64 first, .int .i64 bits, .int .i64 n] w (PutQ l k z w) := by
  subst hk
  refine (rput_any first bits n w).mono fun e w' h' => ?_
  rw [h.out] at h'; exact h'
theorem same_q (A B : Option Addr) (c d n m : Nat) (xs ys : List Int) (w : World) (q : Bool) (hn : xs.length = n) (hk : ys.length = m) (hs : Sees w A (xs.map (Value.int .u8))) (ht : Sees w B (ys.map (Value.int .u8))) (h1 : n ≤ 1000000) (h2 : m ≤ 1000000) (hq : (xs == ys) = q) :
    Calls Try.prog 8 #[.slice A n c, .slice B m d] w fun e w' => e = .returned (.bool q) ∧ Below w.heap.size w w' := by
  subst hn hk hq
  exact same_any A B c d xs ys w hs ht h1 h2

set_option maxRecDepth 10000 in
theorem alive_any (w : World) : Calls Try.prog 9 #[] w fun e w' => e = .returned (.bool true) ∧ Below w.heap.size w w' := by
  go_enter Try.func9, Try.ntmps9
  go_wp2_with fail
  refine (put_q 0 5 1337 _ [31, 154, 10] 3 0 (hide (by decide +kernel)) rfl).mono ?_
  rintro e w1 ⟨A, c, rfl, hs, hb⟩
  go_wp2_with fail
  refine (get_q _ 1 _ 5 [10] _ rfl (Sees.born _ _ _ _) (by decide) (hide (by simp)) 10 1 0 (hide (by decide +kernel))).mono ?_
  rintro e w2 ⟨rfl, hb2⟩
  have hs2 := (hs.alloc (.cells #[.int .u8 10] 5)).kept hb2
  have hb2' := below_next1 hb hb2
  clear hs hb hb2
  go_wp2_with fail
  refine (same_q _ _ _ _ 3 3 [31, 154, 10] [31, 154, 10] _ true rfl rfl (hs2.alloc _) (Sees.born _ _ _ _) (by decide) (by decide) (by decide)).mono ?_
  rintro e w3 ⟨rfl, hb3⟩
  have hb3' := below_next1 hb2' hb3
  clear hb3 hb2' hs2
  go_wp2_with fail
  go_ret
  exact ⟨rfl, hb3'⟩

theorem putS_len (first bits n : Int) : (putS first bits n).1.length ≤ 7 := by
  unfold putS
  repeat' split
  · simp
  · simp
  · simp
  · have h := (dg_len 5 (n - (fl bits.toNat : Nat)).toNat).2
    exact Nat.succ_le_succ h

set_option maxRecDepth 10000 in
theorem puts_any (first bits n : Int) (w : World) : Calls Try.prog 3 #[.int .i64 first, .int .i64 bits, .int .i64 n] w fun e w' => e = .returned (.bool true) ∧ Below w.heap.size w w' := by
  have hl := putS_len first bits n
  obtain ⟨l, z, hp⟩ : ∃ l z, putS first bits n = (l, z) := ⟨_, _, rfl⟩
  rw [hp] at hl
  obtain ⟨k, hk⟩ : ∃ k, l.length = k := ⟨_, rfl⟩
  have hk7 : k ≤ 7 := by rw [← hk]; exact hl
  have HP := hide hp
  have HK := hide hk
  clear hp hk hl
  go_enter Try.func3, Try.ntmps3
  go_wp2_with fail
  refine (put_q first bits n _ l k z HP HK).mono ?_
  rintro e w1 ⟨A, c, rfl, hs, hb⟩
  go_wp2_with fail
  refine (rput_q first bits n _ l k z HP HK).mono ?_
  rintro e w2 ⟨B, d, rfl, ht, hb2⟩
  have hs2 := hs.kept hb2
  have hb2' := below_next hb hb2
  clear hs hb hb2
  go_wp2_with fail
  refine (same_q _ _ _ _ k k l l _ true HK HK hs2 ht (by omega) (by omega) (by simp)).mono ?_
  rintro e w3 ⟨rfl, hb3⟩
  have hb3' := below_next hb2' hb3
  clear hb3 hb2' hs2 ht
  go_wp2_with fail
  refine (alive_any _).mono ?_
  rintro e w4 ⟨rfl, hb4⟩
  have hb4' := below_next hb3' hb4
  clear hb4 hb3'
  go_wp2_with fail
  go_ret
  exact ⟨rfl, hb4'⟩

set_option maxRecDepth 10000 in
theorem gets_far (A : Option Addr) (n c : Nat) (bits : Int) (w : World) (hm : 300 < n) (_hn : n ≤ maxLen) : Calls Try.prog 4 #[.slice A n c, .int .i64 bits] w fun e w' => e = .returned (.bool true) ∧ Below w.heap.size w w' := by
  go_enter Try.func4, Try.ntmps4
  go_wp2_with fail
  refine (alive_any _).mono ?_
  rintro e w4 ⟨rfl, hb4⟩
  go_wp2_with fail
  go_ret
  exact ⟨rfl, hb4⟩
set_option maxRecDepth 10000 in
theorem gets_near (A : Option Addr) (c n : Nat) (bits : Int) (l : List Int) (w : World) (hl : Hid (l.length = n)) (hm : n ≤ 300) (hs : Sees w A (l.map (Value.int .u8))) (hw : Hid (∀ x ∈ l, 0 ≤ x ∧ x ≤ 255)) : Calls Try.prog 4 #[.slice A n c, .int .i64 bits] w fun e w' => e = .returned (.bool true) ∧ Below w.heap.size w w' := by
  obtain ⟨x, y, z, hg⟩ : ∃ x y z, getS l bits = (x, y, z) := ⟨_, _, _, rfl⟩
  have HG := hide hg
  clear hg
  go_enter Try.func4, Try.ntmps4
  go_wp2_with fail
  refine (get_q _ n _ bits l _ hl hs (by omega) hw x y z HG).mono ?_
  rintro e w1 ⟨rfl, hb⟩
  have hs1 := hs.kept hb
  clear hs
  go_wp2_with fail
  refine (rget_q _ n _ bits l _ hl hs1 (by omega) hw x y z HG).mono ?_
  rintro e w2 ⟨rfl, hb2⟩
  have hb2' := below_next hb hb2
  clear hb hb2 hs1
  go_wp2_with fail
  refine (alive_any _).mono ?_
  rintro e w4 ⟨rfl, hb4⟩
  have hb4' := below_next hb2' hb4
  clear hb4 hb2'
  go_wp2_with fail
  go_ret
  exact ⟨rfl, hb4'⟩
end Go.Proofs.Ytpkdmbdmfokkiaa
