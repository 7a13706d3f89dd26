/- Names: plain. -/
import Derived.Test.YtjpjcbdaacifgaaDoorO
namespace Go.Proofs.YtjpjcbdaacifgaaDoor

def knL : List ByteArray := [⟨#[68, 65, 84, 65]⟩, ⟨#[72, 69, 65, 68, 69, 82, 83]⟩, ⟨#[80, 82, 73, 79, 82, 73, 84, 89]⟩, ⟨#[82, 83, 84, 95, 83, 84, 82, 69, 65, 77]⟩, ⟨#[83, 69, 84, 84, 73, 78, 71, 83]⟩, ⟨#[80, 85, 83, 72, 95, 80, 82, 79, 77, 73, 83, 69]⟩, ⟨#[80, 73, 78, 71]⟩, ⟨#[71, 79, 65, 87, 65, 89]⟩, ⟨#[87, 73, 78, 68, 79, 87, 95, 85, 80, 68, 65, 84, 69]⟩, ⟨#[67, 79, 78, 84, 73, 78, 85, 65, 84, 73, 79, 78]⟩]
def kn (i : Nat) : ByteArray := knL.getD i ⟨#[]⟩
/-- A number's digits, as they are written. -/
def digs (n : Nat) : List UInt8 := if n < 10 then [UInt8.ofNat (48 + n)] else if n < 100 then [UInt8.ofNat (48 + n / 10), UInt8.ofNat (48 + n % 10)] else [UInt8.ofNat (48 + n / 10 / 10), UInt8.ofNat (48 + n / 10 % 10), UInt8.ofNat (48 + n % 10)]
theorem digs_small {n : Nat} (h : n < 10) : digs n = [UInt8.ofNat (48 + n)] := if_pos h
theorem digs_two {n : Nat} (h : 10 ≤ n) (h1 : n < 100) : digs n = digs (n / 10) ++ [UInt8.ofNat (48 + n % 10)] := by
  rw [digs_small (show n / 10 < 10 by omega)]
  unfold digs
  rw [if_neg (by omega), if_pos h1]
  rfl
theorem digs_three {n : Nat} (h : 100 ≤ n) (h1 : n < 1000) : digs n = digs (n / 10) ++ [UInt8.ofNat (48 + n % 10)] := by
  rw [digs_two (show 10 ≤ n / 10 by omega) (show n / 10 < 100 by omega), digs_small (show n / 10 / 10 < 10 by omega)]
  unfold digs
  rw [if_neg (by omega), if_neg (by omega)]
  rfl
theorem dec_digs {n : Nat} (h : n < 1000) : Lib.decDigits n = digs n := by
  have d1 : ∀ n, n < 10 → Lib.decDigits n = digs n := fun n h => by
    rw [digs_small h]; unfold Lib.decDigits; rw [dif_pos h]
  have d2 : ∀ n, n < 100 → Lib.decDigits n = digs n := fun n h => by
    by_cases h1 : n < 10
    · exact d1 n h1
    · rw [digs_two (by omega) h]
      conv => lhs; unfold Lib.decDigits
      rw [dif_neg h1, d1 _ (by omega)]
  by_cases h1 : n < 100
  · exact d2 n h1
  · rw [digs_three (by omega) h]
    conv => lhs; unfold Lib.decDigits
    rw [dif_neg (by omega), d2 _ (by omega)]
theorem itoa_digs {n : Nat} (h : n < 1000) : Lib.itoa (n : Int) = digs n := by
  unfold Lib.itoa
  rw [if_neg (by omega)]
  exact dec_digs h
/-- The name of the type one below k. -/
def nameAt (k : Nat) : ByteArray := if k = 0 then ⟨#[80, 82, 69, 70, 65, 67, 69]⟩ else if k ≤ 10 then kn (k - 1) else ⟨#[84, 89, 80, 69, 95] ++ (digs (k - 1)).toArray⟩
/-- The name of a type. -/
def nameV (t : Int) : ByteArray := if -1 ≤ t ∧ t ≤ 255 then nameAt (t + 1).toNat else ⟨#[]⟩
theorem nameV_at {k : Nat} (h : k < 257) : nameV ((k : Int) - 1) = nameAt k := by
  unfold nameV
  rw [if_pos (by omega)]
  congr 1
  omega
theorem nameV_out {t : Int} (h : t < -1 ∨ 255 < t) : nameV t = ⟨#[]⟩ := by
  unfold nameV
  rw [if_neg (by omega)]
theorem nameV_known {t : Int} (h0 : 0 ≤ t) (h1 : t ≤ 9) : nameV t = kn t.toNat := by
  unfold nameV nameAt
  rw [if_pos (by omega), if_neg (by omega), if_pos (by omega)]
  congr 1
  omega
theorem nameV_text {n : Nat} (h0 : 10 ≤ n) (h1 : n ≤ 255) : nameV (n : Int) = ⟨#[84, 89, 80, 69, 95] ++ (digs n).toArray⟩ := by
  unfold nameV nameAt
  rw [if_pos (by omega), if_neg (by omega), if_neg (by omega)]
  have e : ((n : Int) + 1).toNat - 1 = n := by omega
  rw [e]
/-- The first that has a name. -/
def found (s : ByteArray) (k : Nat) : Prop := k < 257 ∧ nameAt k = s ∧ ∀ j, j < k → nameAt j ≠ s
def lost (s : ByteArray) : Prop := ∀ j, j < 257 → nameAt j ≠ s
def nats (n : Nat) : List Nat := List.range n
def diffB : Bool := (List.range 257).all fun k => (List.range k).all fun j => decide (nameAt j ≠ nameAt k)
set_option maxRecDepth 100000 in
theorem diff_true : diffB = true := by decide +kernel
theorem at_diff {j k : Nat} (h : j < k) (hk : k < 257) : nameAt j ≠ nameAt k := fun e => by
  have h1 := List.all_eq_true.1 (List.all_eq_true.1 diff_true k (List.mem_range.2 hk)) j (List.mem_range.2 h)
  exact (of_decide_eq_true h1) e
def fullB : Bool := (List.range 257).all fun k => decide (nameAt k ≠ ⟨#[]⟩)
set_option maxRecDepth 100000 in
theorem full_true : fullB = true := by decide +kernel
theorem at_full {k : Nat} (hk : k < 257) : nameAt k ≠ ⟨#[]⟩ := fun e => by
  have h1 := List.all_eq_true.1 full_true k (List.mem_range.2 hk)
  exact (of_decide_eq_true h1) e
theorem found_self {k : Nat} (hk : k < 257) : found (nameAt k) k := ⟨hk, rfl, fun _ hj => at_diff hj hk⟩
theorem found_one {s : ByteArray} {k j : Nat} (h : found s k) (h1 : found s j) : k = j := by
  obtain ⟨a1, a2, a3⟩ := h
  obtain ⟨b1, b2, b3⟩ := h1
  rcases Nat.lt_trichotomy k j with hl | rfl | hl
  · exact absurd a2 (b3 k hl)
  · rfl
  · exact absurd b2 (a3 j hl)
theorem found_lost {s : ByteArray} {k : Nat} (h : found s k) (h1 : lost s) : False := h1 k h.1 h.2.1
theorem lost_empty : lost ⟨#[]⟩ := fun _ hj => at_full hj
end Go.Proofs.YtjpjcbdaacifgaaDoor
