/- Get, of the program. -/
import Derived.Test.YtpkdmbdmfokkiaaR
import Derived.ScopeJumps
import Derived.WalkMore
namespace Go.Proofs.Ytpkdmbdmfokkiaa
open Go.RowKit

/-- The number that begins behind the first byte: 'at' is where, 'n' what there is already. -/
def goS (l : List Int) : Nat → Nat → Nat → Int × Int × Int
  | 0, _, _ => (0, 0, 5)
  | j + 1, i, n =>
    if l.length ≤ i then (0, 0, 3)
    else if (128 : Int) ≤ l.getD i 0 then goS l j (i + 1) (n + (l.getD i 0).toNat % 128 * 2 ^ (7 * (i - 1)))
    else if 2147483647 < n + (l.getD i 0).toNat % 128 * 2 ^ (7 * (i - 1)) then (0, 0, 5)
    else (((n + (l.getD i 0).toNat % 128 * 2 ^ (7 * (i - 1)) : Nat) : Int), ((i + 1 : Nat) : Int), 0)
def getS (l : List Int) (bits : Int) : Int × Int × Int :=
  if bits < 1 ∨ 8 < bits then (0, 0, 1)
  else if l = [] then (0, 0, 3)
  else if (l.getD 0 0).toNat % 2 ^ bits.toNat < fl bits.toNat then ((((l.getD 0 0).toNat % 2 ^ bits.toNat : Nat) : Int), 1, 0)
  else goS l 5 1 ((l.getD 0 0).toNat % 2 ^ bits.toNat)

def GetPost (x : Int × Int × Int) (w : World) (e : Ending) (w' : World) : Prop := e = .returned (.tuple #[.int .i64 x.1, .int .i64 x.2.1, .int .i64 x.2.2]) ∧ Below w.heap.size w w'

def Jump (w : World) (bb oo c : Nat) (l : List Int) (r : Nat) : Act → World → Prop := fun a' w' => w' = w ∧ ∃ (j i n : Nat) (u1 u2 u3 u4 u5 u6 u9 u10 u11 u12 u13 u14 u15 u16 u17 u18 u19 u20 u21 u22 u23 u24 u25 u26 u27 u28 u29 u30 u31 u32 u33 u34 u35 u36 u37 u38 u39 u40 u41 u42 u43 u44 u45 u46 u47 u48 u49 u50 u51 u52 u53 u54 u55 u56 u57 u58 u59 u60 u61 u62 u63 : Value), a' = { tmps := #[.slice (some ⟨bb, oo, none⟩) l.length c, u1, u2, u3, u4, u5, u6, .int .i64 n, .int .i64 i, u9, u10, u11, u12, u13, u14, u15, u16, u17, u18, u19, u20, u21, u22, u23, u24, u25, u26, u27, u28, u29, u30, u31, u32, u33, u34, u35, u36, u37, u38, u39, u40, u41, u42, u43, u44, u45, u46, u47, u48, u49, u50, u51, u52, u53, u54, u55, u56, u57, u58, u59, u60, u61, u62, u63], defers := [] } ∧ Hid (goS l 5 1 r = goS l j (i + 1) n) ∧ i + j = 5 ∧ 1 ≤ i ∧ i < l.length ∧ n < 256 * 2 ^ (7 * i)

theorem low7u' : ∀ y : Fin 256, bits .and .u8 (y.1 : Int) 127 = ((y.1 % 128 : Nat) : Int) := by decide +kernel
theorem low7u (y : Nat) (h : y < 256) : bits .and .u8 (y : Int) 127 = ((y % 128 : Nat) : Int) := low7u' ⟨y, h⟩
theorem getD_at {l : List Int} {i : Nat} (h : i < l.length) (hw : ∀ x ∈ l, 0 ≤ x ∧ x ≤ 255) : ∃ y : Nat, l[i] = (y : Int) ∧ l.getD i 0 = (y : Int) ∧ y ≤ 255 := by
  have h1 := hw l[i] (List.getElem_mem h)
  refine ⟨l[i].toNat, by omega, ?_, by omega⟩
  rw [List.getD_eq_getElem?_getD, List.getElem?_eq_getElem h]
  simp
  omega
theorem goS_short {l : List Int} {j i n : Nat} (h : l.length ≤ i) : goS l (j + 1) i n = (0, 0, 3) := by rw [goS, if_pos h]
theorem goS_on {l : List Int} {j i n y m : Nat} (h : i < l.length) (hy : l.getD i 0 = (y : Int)) (h128 : 128 ≤ y) (hm : n + y % 128 * 2 ^ (7 * (i - 1)) = m) : goS l (j + 1) i n = goS l j (i + 1) m := by
  rw [goS, if_neg (by omega), hy, if_pos (by omega), Int.toNat_natCast, hm]
theorem goS_great {l : List Int} {j i n y m : Nat} (h : i < l.length) (hy : l.getD i 0 = (y : Int)) (h128 : y < 128) (hm : n + y % 128 * 2 ^ (7 * (i - 1)) = m) (hg : 2147483647 < m) : goS l (j + 1) i n = (0, 0, 5) := by
  rw [goS, if_neg (by omega), hy, if_neg (by omega), Int.toNat_natCast, hm, if_pos hg]
theorem goS_end {l : List Int} {j i n y m : Nat} (h : i < l.length) (hy : l.getD i 0 = (y : Int)) (h128 : y < 128) (hm : n + y % 128 * 2 ^ (7 * (i - 1)) = m) (hg : ¬ 2147483647 < m) {k : Int} (hk : ((i + 1 : Nat) : Int) = k) : goS l (j + 1) i n = ((m : Int), k, 0) := by
  rw [← hk, goS, if_neg (by omega), hy, if_neg (by omega), Int.toNat_natCast, hm, if_neg hg]
theorem get_ret {x : Int × Int × Int} {w w' : World} {e : Ending} {a b c : Int} (h : x = (a, b, c)) (he : e = .returned (.tuple #[.int .i64 a, .int .i64 b, .int .i64 c])) (hb : Below w.heap.size w w') : GetPost x w e w' := by
  subst h; exact ⟨he, hb⟩

set_option maxRecDepth 100000 in
set_option maxHeartbeats 4000000 in
theorem get_go (A : Option Addr) (c b : Nat) (l : List Int) (w : World) (h1 : 1 ≤ b) (h8 : b ≤ 8) (hs : Sees w A (l.map (Value.int .u8))) (hl : 1 ≤ l.length) (hm : l.length ≤ 1000000) (hw : ∀ x ∈ l, 0 ≤ x ∧ x ≤ 255)
    (hf : ¬ (l.getD 0 0).toNat % 2 ^ b < fl b) : Calls Try.prog 10 #[.slice A l.length c, .int .i64 b] w (GetPost (goS l 5 1 ((l.getD 0 0).toNat % 2 ^ b)) w) := by
  have HB := hide (And.intro h1 h8)
  have hf0 := fl_lt h8
  obtain ⟨bb, oo, rfl, hc⟩ := hs 0 _ (u8_at (show 0 < l.length from hl))
  obtain ⟨x, hx⟩ : ∃ x : Nat, l.getD 0 0 = x ∧ x ≤ 255 := by
    have := hw (l.getD 0 0) (by rw [List.getD_eq_getElem?_getD, List.getElem?_eq_getElem hl]; exact List.getElem_mem hl)
    exact ⟨(l.getD 0 0).toNat, by omega, by omega⟩
  have hc0 : w.cell? ⟨bb, oo, none⟩ = some (.int .u8 x) := by
    rw [List.getD_eq_getElem?_getD, List.getElem?_eq_getElem hl] at hx
    simp at hx
    rw [Nat.add_zero] at hc
    rw [hc, hx.1]
  have hand := and_fl x b hx.2 h8
  rw [hx.1] at hf ⊢
  have hx255 := hx.2
  obtain ⟨r, hr⟩ : ∃ r, x % 2 ^ b = r := ⟨_, rfl⟩
  simp only [Int.toNat_natCast] at hf ⊢
  rw [hr] at hand hf ⊢
  have hrf : ((fl b : Nat) : Int) ≤ (r : Int) := by omega
  have hr255 : (r : Int) ≤ 255 := by have h9 := Nat.mod_le x (2 ^ b); rw [hr] at h9; omega
  have hll : (1 : Int) ≤ (l.length : Int) := by omega
  have el0 : ((l.length : Int) == 0) = false := by rw [beq_eq_false_iff_ne]; omega
  have HW := hide hw
  clear hc hr hf h1 h8 hx hw
  go_enter Try.func10, Try.ntmps10
  go_wp2_with fail
  refine wp_scope_jumps 0 (Jump w bb oo c l r) (fun a' _ => 10 - (intOf (a'.tmps.getD 8 undef)).toNat) rfl ?_ ?_
  · go_wp2_with fail
    refine (full_yes b _ HB.out.1 HB.out.2).mono ?_
    rintro e w1 ⟨rfl, rfl⟩
    go_wp2_with fail
    go_step3
    have HE := hide (rfl : goS l 5 1 r = goS l 5 1 r)
    have hdr : decide (r < fl b) = false := by simp; omega
    by_cases hlen : l.length ≤ 1
    · have e1 : ((1 : Int) == (l.length : Int)) = true := by rw [beq_iff_eq]; omega
      have HN := hide (HE.out.trans (goS_short hlen))
      clear hlen
      go_wp2_with fail
      simp only [Exit.jump]
      go_ret3
      exact get_ret HN.out rfl (Below.refl _ _)
    · have hlen' : 1 < l.length := by omega
      have e1 : ((1 : Int) == (l.length : Int)) = false := by rw [beq_eq_false_iff_ne]; omega
      obtain ⟨b2, o2, e2, hc1⟩ := hs 1 _ (u8_at hlen')
      injection e2 with e2
      injection e2 with e2 e3
      subst e2 e3
      obtain ⟨y, hy1, hy2, hy3⟩ := getD_at hlen' HW.out
      rw [hy1] at hc1
      have HY := hide hy2
      clear hy1 hy2 hlen
      have hl7 := low7u y (by omega)
      rw [show ((y % 128 : Nat) : Int) = (y : Int) % 128 from by omega] at hl7
      have b1 : (y : Int) ≤ 255 := by omega
      have b2 : (1 : Int) < (l.length : Int) := by omega
      obtain ⟨m', hm'⟩ : ∃ m : Nat, r + y % 128 * 2 ^ (7 * (1 - 1)) = m := ⟨_, rfl⟩
      have hmm : r + y % 128 * 1 = m' := hm'
      have hmi : (r : Int) + (y : Int) % 128 = (m' : Int) := by omega
      have hmb : (m' : Int) ≤ 32767 := by omega
      have HM := hide hm'
      clear hm' hmm
      by_cases h128 : 128 ≤ y
      · have HN := hide (HE.out.trans (goS_on hlen' HY.out h128 HM.out))
        go_wp2_with fail
        go_step3
        exact ⟨rfl, ⟨rfl, 4, 1, m', _, _, _, _, _, _, _, _, _, _, _, _, _, _, _, _, _, _, _, _, _, _, _, _, _, _, _, _, _, _, _, _, _, _, _, _, _, _, _, _, _, _, _, _, _, _, _, _, _, _, _, _, _, _, _, _, _, _, _, _, _, rfl, HN, by omega, by omega, hlen', by omega⟩⟩
      · have h128' : y < 128 := by omega
        by_cases hg : 2147483647 < m'
        · omega
        · have HN := hide (HE.out.trans (goS_end hlen' HY.out h128' HM.out hg (show ((1 + 1 : Nat) : Int) = 2 from rfl)))
          go_wp2_with fail
          simp only [Exit.jump]
          go_ret3
          exact get_ret HN.out rfl (Below.refl _ _)
  · rintro a' w' ⟨rfl, j, i, n, u1, u2, u3, u4, u5, u6, u9, u10, u11, u12, u13, u14, u15, u16, u17, u18, u19, u20, u21, u22, u23, u24, u25, u26, u27, u28, u29, u30, u31, u32, u33, u34, u35, u36, u37, u38, u39, u40, u41, u42, u43, u44, u45, u46, u47, u48, u49, u50, u51, u52, u53, u54, u55, u56, u57, u58, u59, u60, u61, u62, u63, rfl, HE, hij, hi1, hil, hn⟩
    have hi : i = 1 ∨ i = 2 ∨ i = 3 ∨ i = 4 ∨ i = 5 := by omega
    clear hi1 hand hc0 hrf hr255 hx255 el0
    rcases hi with rfl | rfl | rfl | rfl | rfl
    · obtain rfl : j = 4 := by omega
      have hn' : (n : Int) ≤ 32767 := by omega
      clear hn
      by_cases hlen : l.length ≤ 2
      · have e1 : ((2 : Int) == (l.length : Int)) = true := by rw [beq_iff_eq]; omega
        have HN := hide (HE.out.trans (goS_short hlen))
        clear hlen
        go_wp2_with fail
        simp only [Exit.jump]
        go_ret3
        exact get_ret HN.out rfl (Below.refl _ _)
      · have hlen' : 2 < l.length := by omega
        have e1 : ((2 : Int) == (l.length : Int)) = false := by rw [beq_eq_false_iff_ne]; omega
        obtain ⟨b2, o2, e2, hc1⟩ := hs 2 _ (u8_at hlen')
        injection e2 with e2
        injection e2 with e2 e3
        subst e2 e3
        obtain ⟨y, hy1, hy2, hy3⟩ := getD_at hlen' HW.out
        rw [hy1] at hc1
        have HY := hide hy2
        clear hy1 hy2 hlen
        have hl7 := low7u y (by omega)
        rw [show ((y % 128 : Nat) : Int) = (y : Int) % 128 from by omega] at hl7
        have b1 : (y : Int) ≤ 255 := by omega
        have b2 : (2 : Int) < (l.length : Int) := by omega
        obtain ⟨m', hm'⟩ : ∃ m : Nat, n + y % 128 * 2 ^ (7 * (2 - 1)) = m := ⟨_, rfl⟩
        have hmm : n + y % 128 * 128 = m' := hm'
        have hmi : (n : Int) + (y : Int) % 128 * 128 = (m' : Int) := by omega
        have hmb : (m' : Int) ≤ 4194303 := by omega
        have HM := hide hm'
        clear hm' hmm
        by_cases h128 : 128 ≤ y
        · have HN := hide (HE.out.trans (goS_on hlen' HY.out h128 HM.out))
          go_wp2_with fail
          go_step3
          exact ⟨rfl, ⟨rfl, 3, 2, m', _, _, _, _, _, _, _, _, _, _, _, _, _, _, _, _, _, _, _, _, _, _, _, _, _, _, _, _, _, _, _, _, _, _, _, _, _, _, _, _, _, _, _, _, _, _, _, _, _, _, _, _, _, _, _, _, _, _, _, _, _, rfl, HN, by omega, by omega, hlen', by omega⟩, by simp [intOf]⟩
        · have h128' : y < 128 := by omega
          by_cases hg : 2147483647 < m'
          · omega
          · have HN := hide (HE.out.trans (goS_end hlen' HY.out h128' HM.out hg (show ((2 + 1 : Nat) : Int) = 3 from rfl)))
            go_wp2_with fail
            simp only [Exit.jump]
            go_ret3
            exact get_ret HN.out rfl (Below.refl _ _)
    · obtain rfl : j = 3 := by omega
      have hn' : (n : Int) ≤ 4194303 := by omega
      clear hn
      by_cases hlen : l.length ≤ 3
      · have e1 : ((3 : Int) == (l.length : Int)) = true := by rw [beq_iff_eq]; omega
        have HN := hide (HE.out.trans (goS_short hlen))
        clear hlen
        go_wp2_with fail
        simp only [Exit.jump]
        go_ret3
        exact get_ret HN.out rfl (Below.refl _ _)
      · have hlen' : 3 < l.length := by omega
        have e1 : ((3 : Int) == (l.length : Int)) = false := by rw [beq_eq_false_iff_ne]; omega
        obtain ⟨b2, o2, e2, hc1⟩ := hs 3 _ (u8_at hlen')
        injection e2 with e2
        injection e2 with e2 e3
        subst e2 e3
        obtain ⟨y, hy1, hy2, hy3⟩ := getD_at hlen' HW.out
        rw [hy1] at hc1
        have HY := hide hy2
        clear hy1 hy2 hlen
        have hl7 := low7u y (by omega)
        rw [show ((y % 128 : Nat) : Int) = (y : Int) % 128 from by omega] at hl7
        have b1 : (y : Int) ≤ 255 := by omega
        have b2 : (3 : Int) < (l.length : Int) := by omega
        obtain ⟨m', hm'⟩ : ∃ m : Nat, n + y % 128 * 2 ^ (7 * (3 - 1)) = m := ⟨_, rfl⟩
        have hmm : n + y % 128 * 16384 = m' := hm'
        have hmi : (n : Int) + (y : Int) % 128 * 16384 = (m' : Int) := by omega
        have hmb : (m' : Int) ≤ 536870911 := by omega
        have HM := hide hm'
        clear hm' hmm
        by_cases h128 : 128 ≤ y
        · have HN := hide (HE.out.trans (goS_on hlen' HY.out h128 HM.out))
          go_wp2_with fail
          go_step3
          exact ⟨rfl, ⟨rfl, 2, 3, m', _, _, _, _, _, _, _, _, _, _, _, _, _, _, _, _, _, _, _, _, _, _, _, _, _, _, _, _, _, _, _, _, _, _, _, _, _, _, _, _, _, _, _, _, _, _, _, _, _, _, _, _, _, _, _, _, _, _, _, _, _, rfl, HN, by omega, by omega, hlen', by omega⟩, by simp [intOf]⟩
        · have h128' : y < 128 := by omega
          by_cases hg : 2147483647 < m'
          · omega
          · have HN := hide (HE.out.trans (goS_end hlen' HY.out h128' HM.out hg (show ((3 + 1 : Nat) : Int) = 4 from rfl)))
            go_wp2_with fail
            simp only [Exit.jump]
            go_ret3
            exact get_ret HN.out rfl (Below.refl _ _)
    · obtain rfl : j = 2 := by omega
      have hn' : (n : Int) ≤ 536870911 := by omega
      clear hn
      by_cases hlen : l.length ≤ 4
      · have e1 : ((4 : Int) == (l.length : Int)) = true := by rw [beq_iff_eq]; omega
        have HN := hide (HE.out.trans (goS_short hlen))
        clear hlen
        go_wp2_with fail
        simp only [Exit.jump]
        go_ret3
        exact get_ret HN.out rfl (Below.refl _ _)
      · have hlen' : 4 < l.length := by omega
        have e1 : ((4 : Int) == (l.length : Int)) = false := by rw [beq_eq_false_iff_ne]; omega
        obtain ⟨b2, o2, e2, hc1⟩ := hs 4 _ (u8_at hlen')
        injection e2 with e2
        injection e2 with e2 e3
        subst e2 e3
        obtain ⟨y, hy1, hy2, hy3⟩ := getD_at hlen' HW.out
        rw [hy1] at hc1
        have HY := hide hy2
        clear hy1 hy2 hlen
        have hl7 := low7u y (by omega)
        rw [show ((y % 128 : Nat) : Int) = (y : Int) % 128 from by omega] at hl7
        have b1 : (y : Int) ≤ 255 := by omega
        have b2 : (4 : Int) < (l.length : Int) := by omega
        obtain ⟨m', hm'⟩ : ∃ m : Nat, n + y % 128 * 2 ^ (7 * (4 - 1)) = m := ⟨_, rfl⟩
        have hmm : n + y % 128 * 2097152 = m' := hm'
        have hmi : (n : Int) + (y : Int) % 128 * 2097152 = (m' : Int) := by omega
        have hmb : (m' : Int) ≤ 68719476735 := by omega
        have HM := hide hm'
        clear hm' hmm
        by_cases h128 : 128 ≤ y
        · have HN := hide (HE.out.trans (goS_on hlen' HY.out h128 HM.out))
          go_wp2_with fail
          go_step3
          exact ⟨rfl, ⟨rfl, 1, 4, m', _, _, _, _, _, _, _, _, _, _, _, _, _, _, _, _, _, _, _, _, _, _, _, _, _, _, _, _, _, _, _, _, _, _, _, _, _, _, _, _, _, _, _, _, _, _, _, _, _, _, _, _, _, _, _, _, _, _, _, _, _, rfl, HN, by omega, by omega, hlen', by omega⟩, by simp [intOf]⟩
        · have h128' : y < 128 := by omega
          by_cases hg : 2147483647 < m'
          · omega
          · have HN := hide (HE.out.trans (goS_end hlen' HY.out h128' HM.out hg (show ((4 + 1 : Nat) : Int) = 5 from rfl)))
            go_wp2_with fail
            simp only [Exit.jump]
            go_ret3
            exact get_ret HN.out rfl (Below.refl _ _)
    · obtain rfl : j = 1 := by omega
      have hn' : (n : Int) ≤ 68719476735 := by omega
      clear hn
      by_cases hlen : l.length ≤ 5
      · have e1 : ((5 : Int) == (l.length : Int)) = true := by rw [beq_iff_eq]; omega
        have HN := hide (HE.out.trans (goS_short hlen))
        clear hlen
        go_wp2_with fail
        simp only [Exit.jump]
        go_ret3
        exact get_ret HN.out rfl (Below.refl _ _)
      · have hlen' : 5 < l.length := by omega
        have e1 : ((5 : Int) == (l.length : Int)) = false := by rw [beq_eq_false_iff_ne]; omega
        obtain ⟨b2, o2, e2, hc1⟩ := hs 5 _ (u8_at hlen')
        injection e2 with e2
        injection e2 with e2 e3
        subst e2 e3
        obtain ⟨y, hy1, hy2, hy3⟩ := getD_at hlen' HW.out
        rw [hy1] at hc1
        have HY := hide hy2
        clear hy1 hy2 hlen
        have hl7 := low7u y (by omega)
        rw [show ((y % 128 : Nat) : Int) = (y : Int) % 128 from by omega] at hl7
        have b1 : (y : Int) ≤ 255 := by omega
        have b2 : (5 : Int) < (l.length : Int) := by omega
        obtain ⟨m', hm'⟩ : ∃ m : Nat, n + y % 128 * 2 ^ (7 * (5 - 1)) = m := ⟨_, rfl⟩
        have hmm : n + y % 128 * 268435456 = m' := hm'
        have hmi : (n : Int) + (y : Int) % 128 * 268435456 = (m' : Int) := by omega
        have hmb : (m' : Int) ≤ 8796093022207 := by omega
        have HM := hide hm'
        clear hm' hmm
        by_cases h128 : 128 ≤ y
        · have HN := hide (HE.out.trans (goS_on hlen' HY.out h128 HM.out))
          go_wp2_with fail
          go_step3
          exact ⟨rfl, ⟨rfl, 0, 5, m', _, _, _, _, _, _, _, _, _, _, _, _, _, _, _, _, _, _, _, _, _, _, _, _, _, _, _, _, _, _, _, _, _, _, _, _, _, _, _, _, _, _, _, _, _, _, _, _, _, _, _, _, _, _, _, _, _, _, _, _, _, rfl, HN, by omega, by omega, hlen', by omega⟩, by simp [intOf]⟩
        · have h128' : y < 128 := by omega
          by_cases hg : 2147483647 < m'
          · have HN := hide (HE.out.trans (goS_great hlen' HY.out h128' HM.out hg))
            go_wp2_with fail
            simp only [Exit.jump]
            go_ret3
            exact get_ret HN.out rfl (Below.refl _ _)
          · have HN := hide (HE.out.trans (goS_end hlen' HY.out h128' HM.out hg (show ((5 + 1 : Nat) : Int) = 6 from rfl)))
            go_wp2_with fail
            simp only [Exit.jump]
            go_ret3
            exact get_ret HN.out rfl (Below.refl _ _)
    · obtain rfl : j = 0 := by omega
      have HN := hide (HE.out.trans (show goS l 0 (5 + 1) n = (0, 0, 5) from rfl))
      clear hn
      go_wp2_with fail
      simp only [Exit.jump]
      go_ret3
      exact get_ret HN.out rfl (Below.refl _ _)
end Go.Proofs.Ytpkdmbdmfokkiaa
