/- Contracts: full, power, digits. -/
import Derived.Test.YtpkdmbdmfokkiaaRows
import Derived.Test.YtpkdmbdmfokkiaaP
import Derived.Outline
namespace Go.Proofs.Ytpkdmbdmfokkiaa
open Go.RowKit

theorem Try.info5 : (Try.prog.info? 5).map (fun i => (i.zero, i.size, i.bytes)) = some (some (.int .u8 0), 1, 1) := by kernel_rfl

theorem ret_ib {k : IntKind} {a b : Int} {c d : Bool} (h : a = b) (h2 : c = d) : Ending.returned (.tuple #[.int k a, .bool c]) = .returned (.tuple #[.int k b, .bool d]) := by rw [h, h2]

theorem full_yes (b : Nat) (w : World) (h1 : 1 ≤ b) (h8 : b ≤ 8) : Calls Try.prog 12 #[.int .i64 b] w fun e w' => e = .returned (.tuple #[.int .i64 (fl b : Nat), .bool true]) ∧ w = w' := by
  have h : b = 1 ∨ b = 2 ∨ b = 3 ∨ b = 4 ∨ b = 5 ∨ b = 6 ∨ b = 7 ∨ b = 8 := by omega
  clear h1 h8
  rcases h with rfl | rfl | rfl | rfl | rfl | rfl | rfl | rfl
  all_goals
    go_enter Try.func12, Try.ntmps12
    go_wp2
    go_ret2
    exact ⟨ret_ib (by decide) rfl, rfl⟩
theorem full_no (b : Int) (w : World) (h : b < 1 ∨ 8 < b) : Calls Try.prog 12 #[.int .i64 b] w fun e w' => e = .returned (.tuple #[.int .i64 0, .bool false]) ∧ w = w' := by
  by_cases h1 : b < 1
  · clear h
    go_enter Try.func12, Try.ntmps12
    go_wp2
    go_ret2
    exact ⟨rfl, rfl⟩
  · have h2 : 8 < b := by omega
    clear h
    go_enter Try.func12, Try.ntmps12
    go_wp2
    go_ret2
    exact ⟨rfl, rfl⟩

def pw (n : Nat) : Nat := 2 ^ n
theorem pow_le {k n : Nat} (h : k ≤ n) (hn : n ≤ 61) : 2 ^ k ≤ 2305843009213693952 := by
  have : 2 ^ k ≤ 2 ^ 61 := Nat.pow_le_pow_right (by decide) (by omega)
  omega
theorem power_any (n : Nat) (w : World) (hn : n ≤ 61) : Calls Try.prog 13 #[.int .i64 n] w fun e w' => e = .returned (.int .i64 (pw n : Nat)) ∧ w = w' := by
  go_enter Try.func13, Try.ntmps13
  go_wp2
  go_loop [3, 4] (fun p i => ∃ k q : Nat, k ≤ n ∧ i = .int .i64 k ∧ p = .int .i64 q ∧ Hid (q = pw k)) (fun _ i => n - (intOf i).toNat)
  case atStart => exact ⟨0, 1, Nat.zero_le _, rfl, rfl, rfl⟩
  case round =>
    obtain ⟨k, q, hk, rfl, rfl, HQ⟩ := hrel
    have hq : q ≤ 2305843009213693952 := by rw [HQ.out]; exact pow_le hk hn
    by_cases hlt : k < n
    · go_wp2
      go_round
      case rel => exact ⟨k + 1, 2 * q, by omega, by go_num, by go_num, by rw [Hid, HQ.out, pw, pw, Nat.pow_succ]; omega⟩
      case measure => simp [intOf]; omega
    · go_wp2
      go_ret
      exact ⟨ret_int (by rw [HQ.out, show k = n from by omega]), rfl⟩

theorem u8_at {xs : List Int} {k : Nat} (h : k < xs.length) : (xs.map (Value.int .u8))[k]? = some (.int .u8 xs[k]) := by simp [h]

/-- A new slice of bytes, the call's own. -/
def NewBytes (l : List Int) (w : World) (e : Ending) (w' : World) : Prop :=
  ∃ g c, e = .returned (.slice (some ⟨g, 0, none⟩) l.length c) ∧ w'.ownsRow w.heap.size 5 1 (.slice (some ⟨g, 0, none⟩) l.length c) l.length (l.map (Value.int .u8)) ∧ Below w.heap.size w w'

theorem own_lit (w : World) (cs : Array Value) (t : TypeId) (n : Nat) (hn : n ≤ maxLen) (hs : cs.size = n) (base : Nat) (hb : base ≤ w.heap.size) : (w.alloc (.cells cs t)).ownsRow base t 1 (.slice (some ⟨w.heap.size, 0, none⟩) n n) n cs.toList := by
  refine ⟨by simp [hs], .inr ⟨w.heap.size, n, cs, rfl, hb, heap_alloc_new w _, Nat.le_refl _, hn, by simp [hs], ?_⟩⟩
  rw [List.take_of_length_le (by simp [hs])]

set_option maxRecDepth 10000 in
theorem digits_small (k n : Nat) (w : World) (hn : n < 128) : Calls Try.prog 14 #[.int .i64 n] w (NewBytes (dg k n) w) := by
  rw [dg_small k n hn]
  go_enter Try.func14, Try.ntmps14
  go_wp2_with fail
  go_ret
  exact ⟨w.heap.size, 1, rfl, own_lit w #[.int .u8 n] 5 1 (by decide) rfl _ (Nat.le_refl _), (Below.refl _ _).alloc (Nat.le_refl _) _⟩

set_option maxRecDepth 10000 in
theorem digits_any (k n : Nat) (w : World) (h : n < 128 ^ (k + 1)) (hk : k ≤ 5) : Calls Try.prog 14 #[.int .i64 n] w (NewBytes (dg k n) w) := by
  induction k generalizing n w with
  | zero => exact digits_small 0 n w (by simpa using h)
  | succ k ih =>
    by_cases hn : n < 128
    · exact digits_small _ n w hn
    · have IH := hide (ih (n / 128))
      rw [dg_more k n hn]
      have H := hide h
      have h63 : n ≤ 9223372036854775807 := by
        have : 128 ^ (k + 1 + 1) ≤ 128 ^ 7 := Nat.pow_le_pow_right (by decide) (by omega)
        omega
      have HD : Hid (n / 128 < 128 ^ (k + 1)) := by
        rw [Hid, Nat.div_lt_iff_lt_mul (by decide)]
        rw [Nat.pow_succ] at h
        exact h
      have IH2 : Hid (∀ w, Calls Try.prog 14 #[.int .i64 ((n : Int) / 128)] w (NewBytes (dg k (n / 128)) w)) := hide fun w => by
        rw [show ((n : Int) / 128) = ((n / 128 : Nat) : Int) from by omega]
        exact IH.out w HD.out (by omega)
      clear h ih IH HD H
      have hk5 := hk
      have hlen := dg_len k (n / 128)
      have HL := hide hlen
      obtain ⟨i0, hi, hz0, hz1, hz2⟩ := info_parts Try.info5
      clear hlen
      go_enter Try.func14, Try.ntmps14
      go_wp2_with fail
      refine (IH2.out _).mono ?_
      rintro e w1 ⟨g, c, rfl, hown, hb⟩
      have B1 : Blk w1 w.heap.size 5 #[.int .u8 (128 + (n : Int) % 128)] := (Blk.born _ _ _).kept hb
      have hb1 := below_base1 hb
      clear hb
      have own1 : w1.ownsRow w.heap.size 5 1 (.slice (some ⟨w.heap.size, 0, none⟩) 1 1) 1 [.int .u8 (128 + (n : Int) % 128)] :=
        ⟨rfl, .inr ⟨w.heap.size, 1, _, rfl, Nat.le_refl _, B1, Nat.le_refl _, by decide, rfl, rfl⟩⟩
      have HC := hide (fun j u hu => hown.cells (g := g) rfl j u hu)
      have hsz := hb1.size
      clear hown B1
      go_wp2_with (at_builtin; go_loud (refine wpList_append_own _ rfl (.tmp 12) (.tmp 15) 22 rfl w.heap.size 5 i0 (.int .u8 0) 1 1 Try.underlying22 hi hz0 hz1 hz2 rfl (by decide) _ 1 _ rfl own1 ⟨g, 0, none⟩ (dg k (n / 128)).length c ((dg k (n / 128)).map (Value.int .u8)) rfl (by simp) HC.out (ints_oneCell _ _) (by have := HL.out; unfold maxLen; omega) (by have := HL.out; omega) hsz ?_))
      intro v' w2 hown2 hg2 _
      obtain ⟨g', c', rfl⟩ := own_some hown2 (by omega)
      have hb2 := hb1.grown hg2 hsz (fun k e => by simp [Value.ownBlock] at e; omega)
      go_wp2_with fail
      go_ret
      have el : (((128 + n % 128 : Nat) : Int) :: dg k (n / 128)).length = 1 + (dg k (n / 128)).length := by simp; omega
      have ec : (((128 + n % 128 : Nat) : Int) :: dg k (n / 128)).map (Value.int .u8) = [Value.int .u8 (128 + (n : Int) % 128)] ++ (dg k (n / 128)).map (Value.int .u8) := by
        rw [List.map_cons, show (((128 + n % 128 : Nat) : Int)) = 128 + (n : Int) % 128 from by omega]
        rfl
      refine ⟨g', c', ?_, ?_, hb2⟩
      · rw [el]
        rfl
      · rw [el, ec]
        exact hown2
end Go.Proofs.Ytpkdmbdmfokkiaa
