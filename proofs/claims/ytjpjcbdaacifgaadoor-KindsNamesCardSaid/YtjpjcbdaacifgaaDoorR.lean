/- Contracts: names. -/
import Derived.Test.YtjpjcbdaacifgaaDoorQ
namespace Go.Proofs.YtjpjcbdaacifgaaDoor
open Go.RowKit
set_option linter.unusedSimpArgs false

theorem ret_str {a b : ByteArray} (h : a = b) : Ending.returned (.string a) = .returned (.string b) := by rw [h]
theorem digit_any (n : Nat) (z : Int) (h : n < 10) (hz : z = (n : Nat)) (w : World) : Calls Tryd.prog 26 #[.int .i64 z] w fun e w' => e = .returned (.string ⟨(digs n).toArray⟩) ∧ w = w' := by
  have h10 : n = 0 ∨ n = 1 ∨ n = 2 ∨ n = 3 ∨ n = 4 ∨ n = 5 ∨ n = 6 ∨ n = 7 ∨ n = 8 ∨ n = 9 := by omega
  rcases h10 with rfl | rfl | rfl | rfl | rfl | rfl | rfl | rfl | rfl | rfl
  · obtain rfl : z = 0 := hz
    go_enter Tryd.func26, Tryd.ntmps26
    go_wp2_with fail
    go_ret
    exact ⟨rfl, rfl⟩
  · obtain rfl : z = 1 := hz
    go_enter Tryd.func26, Tryd.ntmps26
    go_wp2_with fail
    go_ret
    exact ⟨rfl, rfl⟩
  · obtain rfl : z = 2 := hz
    go_enter Tryd.func26, Tryd.ntmps26
    go_wp2_with fail
    go_ret
    exact ⟨rfl, rfl⟩
  · obtain rfl : z = 3 := hz
    go_enter Tryd.func26, Tryd.ntmps26
    go_wp2_with fail
    go_ret
    exact ⟨rfl, rfl⟩
  · obtain rfl : z = 4 := hz
    go_enter Tryd.func26, Tryd.ntmps26
    go_wp2_with fail
    go_ret
    exact ⟨rfl, rfl⟩
  · obtain rfl : z = 5 := hz
    go_enter Tryd.func26, Tryd.ntmps26
    go_wp2_with fail
    go_ret
    exact ⟨rfl, rfl⟩
  · obtain rfl : z = 6 := hz
    go_enter Tryd.func26, Tryd.ntmps26
    go_wp2_with fail
    go_ret
    exact ⟨rfl, rfl⟩
  · obtain rfl : z = 7 := hz
    go_enter Tryd.func26, Tryd.ntmps26
    go_wp2_with fail
    go_ret
    exact ⟨rfl, rfl⟩
  · obtain rfl : z = 8 := hz
    go_enter Tryd.func26, Tryd.ntmps26
    go_wp2_with fail
    go_ret
    exact ⟨rfl, rfl⟩
  · obtain rfl : z = 9 := hz
    go_enter Tryd.func26, Tryd.ntmps26
    go_wp2_with fail
    go_ret
    exact ⟨rfl, rfl⟩

theorem str_cat (a b : Array UInt8) : ((⟨a⟩ : ByteArray) ++ ⟨b⟩) = ⟨a ++ b⟩ := ByteArray.ext (by simp)
theorem str_app {a b c : List UInt8} (h : c = a ++ b) : (⟨a.toArray ++ b.toArray⟩ : ByteArray) = ⟨c.toArray⟩ := by rw [h]; simp
theorem rtext1 (n : Nat) (z : Int) (h : n < 10) (hz : z = (n : Nat)) (w : World) : Calls Tryd.prog 24 #[.int .i64 z] w fun e w' => e = .returned (.string ⟨(digs n).toArray⟩) ∧ w = w' := by
  have hc := digit_any n z h hz w
  obtain ⟨s, hs⟩ : ∃ s : ByteArray, ⟨(digs n).toArray⟩ = s := ⟨_, rfl⟩
  rw [hs] at hc ⊢
  have z0 : 0 ≤ z := by omega
  have z1 : z < 10 := by omega
  clear h hz hs
  go_enter Tryd.func24, Tryd.ntmps24
  go_wp2_with (go_at_call 26; refine hc.mono ?_; rintro e w1 ⟨rfl, rfl⟩)
  go_wp2_with fail
  go_ret
  exact ⟨rfl, rfl⟩
theorem rtext2 (n : Nat) (z : Int) (h0 : 10 ≤ n) (h : n < 100) (hz : z = (n : Nat)) (w : World) : Calls Tryd.prog 24 #[.int .i64 z] w fun e w' => e = .returned (.string ⟨(digs n).toArray⟩) ∧ w = w' := by
  have hc : ∀ y : Int, y = z / 10 → Hid (Calls Tryd.prog 24 #[.int .i64 y] w fun e w' => e = .returned (.string ⟨(digs (n / 10)).toArray⟩) ∧ w = w') := fun y hy => hide (rtext1 (n / 10) y (by omega) (by omega) w)
  have hd : ∀ y : Int, y = z % 10 → Hid (Calls Tryd.prog 26 #[.int .i64 y] w fun e w' => e = .returned (.string ⟨(digs (n % 10)).toArray⟩) ∧ w = w') := fun y hy => hide (digit_any (n % 10) y (by omega) (by omega) w)
  have HE : Hid ((⟨(digs (n / 10)).toArray ++ (digs (n % 10)).toArray⟩ : ByteArray) = ⟨(digs n).toArray⟩) := hide (str_app (by rw [digs_two h0 h, digs_small (show n % 10 < 10 by omega)]))
  have z0 : 0 ≤ z := by omega
  have z1 : ¬ z < 10 := by omega
  have z2 : z < 1000 := by omega
  have HL : Hid ((digs (n / 10)).toArray.size ≤ 3 ∧ (digs (n % 10)).toArray.size ≤ 3) := hide (by constructor <;> (unfold digs; repeat' split) <;> simp)
  generalize (digs (n / 10)).toArray = s1 at hc HE HL
  generalize (digs (n % 10)).toArray = s2 at hd HE HL
  generalize (digs n).toArray = s3 at HE ⊢
  obtain ⟨l1, l2⟩ := HL.out
  clear h0 h hz
  go_enter Tryd.func24, Tryd.ntmps24
  go_wp2_with (first | (go_at_call 24; refine (hc _ (by first | rfl | omega)).out.mono ?_; rintro e w1 ⟨rfl, rfl⟩) | (go_at_call 26; refine (hd _ (by first | rfl | omega)).out.mono ?_; rintro e w1 ⟨rfl, rfl⟩))
  go_wp2_with fail
  go_ret
  refine ⟨ret_str ?_, rfl⟩
  rw [← HE.out, ← str_cat]
theorem rtext3 (n : Nat) (z : Int) (h0 : 100 ≤ n) (h : n < 1000) (hz : z = (n : Nat)) (w : World) : Calls Tryd.prog 24 #[.int .i64 z] w fun e w' => e = .returned (.string ⟨(digs n).toArray⟩) ∧ w = w' := by
  have hc : ∀ y : Int, y = z / 10 → Hid (Calls Tryd.prog 24 #[.int .i64 y] w fun e w' => e = .returned (.string ⟨(digs (n / 10)).toArray⟩) ∧ w = w') := fun y hy => hide (rtext2 (n / 10) y (by omega) (by omega) (by omega) w)
  have hd : ∀ y : Int, y = z % 10 → Hid (Calls Tryd.prog 26 #[.int .i64 y] w fun e w' => e = .returned (.string ⟨(digs (n % 10)).toArray⟩) ∧ w = w') := fun y hy => hide (digit_any (n % 10) y (by omega) (by omega) w)
  have HE : Hid ((⟨(digs (n / 10)).toArray ++ (digs (n % 10)).toArray⟩ : ByteArray) = ⟨(digs n).toArray⟩) := hide (str_app (by rw [digs_three h0 h, digs_small (show n % 10 < 10 by omega)]))
  have z0 : 0 ≤ z := by omega
  have z1 : ¬ z < 10 := by omega
  have z2 : z < 1000 := by omega
  have HL : Hid ((digs (n / 10)).toArray.size ≤ 3 ∧ (digs (n % 10)).toArray.size ≤ 3) := hide (by constructor <;> (unfold digs; repeat' split) <;> simp)
  generalize (digs (n / 10)).toArray = s1 at hc HE HL
  generalize (digs (n % 10)).toArray = s2 at hd HE HL
  generalize (digs n).toArray = s3 at HE ⊢
  obtain ⟨l1, l2⟩ := HL.out
  clear h0 h hz
  go_enter Tryd.func24, Tryd.ntmps24
  go_wp2_with (first | (go_at_call 24; refine (hc _ (by first | rfl | omega)).out.mono ?_; rintro e w1 ⟨rfl, rfl⟩) | (go_at_call 26; refine (hd _ (by first | rfl | omega)).out.mono ?_; rintro e w1 ⟨rfl, rfl⟩))
  go_wp2_with fail
  go_ret
  refine ⟨ret_str ?_, rfl⟩
  rw [← HE.out, ← str_cat]
theorem rtext_any (n : Nat) (z : Int) (h : n < 1000) (hz : z = (n : Nat)) (w : World) : Calls Tryd.prog 24 #[.int .i64 z] w fun e w' => e = .returned (.string ⟨(digs n).toArray⟩) ∧ w = w' := by
  by_cases h1 : n < 10
  · exact rtext1 n z h1 hz w
  · by_cases h2 : n < 100
    · exact rtext2 n z (by omega) h2 hz w
    · exact rtext3 n z (by omega) h hz w
/-- What is laid. -/
structure LaidW (w : World) : Prop where
  names : ∀ i, i < 10 → w.cell? ⟨0, i, none⟩ = some (.string (kn i))
  tab : Lib.TabIs Tryd.prog w "internal/strconv.uint64pow10" .u64 Lib.pow10Tab
theorem gPow : Tryd.prog.globalNamed "internal/strconv.uint64pow10" = some 1 := by kernel_rfl
theorem LaidW.kept {w w' : World} (h : LaidW w) (hb : Below w.heap.size w w') : LaidW w' := by
  refine ⟨fun i hi => (hb.cell (World.block_lt_of_cell? w _ (h.names i hi))).trans (h.names i hi), ?_⟩
  have h1 := h.tab
  unfold Lib.TabIs World.var? at h1 ⊢
  rw [gPow] at h1 ⊢
  simp only [Option.bind_some] at h1 ⊢
  have hlt : 1 < w.heap.size := by
    rcases Nat.lt_or_ge 1 w.heap.size with h' | h'
    · exact h'
    · rw [Array.getElem?_eq_none h'] at h1; cases h1
  rw [hb.block 1 hlt]
  exact h1
theorem text_any (n : Nat) (z : Int) (h : n < 1000) (hz : z = (n : Nat)) (w : World) (hl : LaidW w) : Calls Tryd.prog 22 #[.int .i64 z] w fun e w' => e = .returned (.string ⟨(digs n).toArray⟩) ∧ Below w.heap.size w w' := by
  have hc := (Tryd.strconv_Itoa z (by omega) (by omega) w hl.tab).mono (R' := fun e w' => e = .returned (.string ⟨(digs n).toArray⟩) ∧ Below w.heap.size w w') fun e w' ⟨he, k, os, hw⟩ => by
    rw [hz, itoa_digs h] at he
    refine ⟨he, ?_⟩
    subst hw
    exact ⟨rfl, rfl, rfl, by simp [Sort.grow], fun i hi => Sort.heap_grow_old (w.drewN k) os hi⟩
  generalize (digs n).toArray = s at hc ⊢
  clear h hz hl
  go_enter Tryd.func22, Tryd.ntmps22
  go_wp2_with (go_at_call 25; refine hc.mono ?_; rintro e w1 ⟨rfl, hb⟩)
  have HB := hide hb
  clear hb hc
  go_wp2_with fail
  go_ret
  exact ⟨rfl, HB.out⟩
def NPost (w : World) (e : Ending) (w' : World) : Prop := ∃ g, e = .returned (.slice (some ⟨g, 0, none⟩) 10 10) ∧ (∀ i, i < 10 → w'.cell? ⟨g, i, none⟩ = some (.string (kn i))) ∧ Below w.heap.size w w'
theorem names_any (w : World) : Calls Tryd.prog 23 #[] w (NPost w) := by
  go_enter Tryd.func23, Tryd.ntmps23
  go_wp2_with fail
  go_ret
  refine ⟨w.heap.size, rfl, fun i hi => ?_, (Below.refl _ _).alloc (Nat.le_refl _) _⟩
  rw [(Blk.born w _ _).cell i]
  have h10 : i = 0 ∨ i = 1 ∨ i = 2 ∨ i = 3 ∨ i = 4 ∨ i = 5 ∨ i = 6 ∨ i = 7 ∨ i = 8 ∨ i = 9 := by omega
  rcases h10 with rfl | rfl | rfl | rfl | rfl | rfl | rfl | rfl | rfl | rfl <;> rfl
theorem four (t : Int) : t = -1 ∨ (t == -1) = false ∧ (t < 0 ∨ 255 < t) ∨ (t == -1) = false ∧ 0 ≤ t ∧ t ≤ 9 ∨ (t == -1) = false ∧ 10 ≤ t ∧ t ≤ 255 := by
  simp only [beq_eq_false_iff_ne, ne_eq]
  omega
set_option maxRecDepth 10000 in
theorem rname_any (t : Int) (w : World) : Calls Tryd.prog 19 #[.int .i64 t] w fun e w' => e = .returned (.string (nameV t)) ∧ Below w.heap.size w w' := by
  rcases four t with rfl | ⟨h0, h1⟩ | ⟨h0, h1, h2⟩ | ⟨h0, h1, h2⟩
  · go_enter Tryd.func19, Tryd.ntmps19
    go_wp2_with fail
    go_ret
    exact ⟨rfl, Below.refl _ _⟩
  · have HN : Hid (nameV t = ⟨#[]⟩) := hide (nameV_out (by simp only [beq_eq_false_iff_ne, ne_eq] at h0; omega))
    rcases h1 with h1 | h1
    · go_enter Tryd.func19, Tryd.ntmps19
      go_wp2_with fail
      go_ret
      exact ⟨by rw [HN.out]; rfl, Below.refl _ _⟩
    · have h3 : ¬ t < 0 := by omega
      have h4 : t > 255 := h1
      go_enter Tryd.func19, Tryd.ntmps19
      go_wp2_with fail
      go_ret
      exact ⟨by rw [HN.out]; rfl, Below.refl _ _⟩
  · obtain ⟨n, rfl⟩ := Int.eq_ofNat_of_zero_le h1
    have HN : Hid (nameV (n : Int) = kn n) := hide (nameV_known h1 h2)
    have h3 : ¬ (n : Int) < 0 := by omega
    have h4 : ¬ (n : Int) > 255 := by omega
    have h5 : (n : Int) < 10 := by omega
    have h6 : n < 10 := by omega
    have hc := names_any w
    go_enter Tryd.func19, Tryd.ntmps19
    go_wp2_with (go_at_call 23; refine hc.mono ?_; rintro e w1 ⟨g, rfl, hs, hb⟩)
    have HB := hide hb
    have hcell : w1.cell? ⟨g, 0 + n, none⟩ = some (.string (kn n)) := by rw [Nat.zero_add]; exact hs n h6
    have hcell2 : w1.cell? ⟨g, n, none⟩ = some (.string (kn n)) := hs n h6
    clear hb hc hs
    go_wp2_with fail
    go_ret
    exact ⟨by rw [HN.out]; rfl, HB.out⟩
  · obtain ⟨n, rfl⟩ := Int.eq_ofNat_of_zero_le (show 0 ≤ t by omega)
    have HN : Hid (nameV (n : Int) = ⟨#[84, 89, 80, 69, 95] ++ (digs n).toArray⟩) := hide (nameV_text (by omega) (by omega))
    have h3 : ¬ (n : Int) < 0 := by omega
    have h4 : ¬ (n : Int) > 255 := by omega
    have h5 : ¬ (n : Int) < 10 := by omega
    have hc := rtext_any n (n : Int) (by omega) rfl w
    have hl3 : (digs n).toArray.size ≤ 3 := by (unfold digs; repeat' split) <;> simp
    generalize (digs n).toArray = s at hc HN hl3
    go_enter Tryd.func19, Tryd.ntmps19
    go_wp2_with (go_at_call 24; refine hc.mono ?_; rintro e w1 ⟨rfl, rfl⟩)
    clear hc
    go_wp2_with fail
    go_ret
    exact ⟨ret_str (by rw [HN.out, ← str_cat]), Below.refl _ _⟩
set_option maxRecDepth 10000 in
theorem name_any (t : Int) (w : World) (hl : LaidW w) : Calls Tryd.prog 16 #[.int .i64 t] w fun e w' => e = .returned (.string (nameV t)) ∧ Below w.heap.size w w' := by
  have hk := known_any t w
  rcases four t with rfl | ⟨h0, h1⟩ | ⟨h0, h1, h2⟩ | ⟨h0, h1, h2⟩
  · clear hk
    go_enter Tryd.func16, Tryd.ntmps16
    go_wp2_with fail
    go_ret
    exact ⟨rfl, Below.refl _ _⟩
  · have HN : Hid (nameV t = ⟨#[]⟩) := hide (nameV_out (by simp only [beq_eq_false_iff_ne, ne_eq] at h0; omega))
    rw [show (decide (0 ≤ t) && decide (t ≤ 9)) = false from by simp; omega] at hk
    rcases h1 with h1 | h1
    · have h3 : ¬ t > 9 := by omega
      go_enter Tryd.func16, Tryd.ntmps16
      go_wp2_with (go_at_call 20; refine hk.mono ?_; rintro e w1 ⟨rfl, rfl⟩)
      go_wp2_with fail
      go_ret
      exact ⟨by rw [HN.out]; rfl, Below.refl _ _⟩
    · have h3 : t > 9 := by omega
      have h4 : ¬ t ≤ 255 := by omega
      go_enter Tryd.func16, Tryd.ntmps16
      go_wp2_with (go_at_call 20; refine hk.mono ?_; rintro e w1 ⟨rfl, rfl⟩)
      go_wp2_with fail
      go_ret
      exact ⟨by rw [HN.out]; rfl, Below.refl _ _⟩
  · rw [show (decide (0 ≤ t) && decide (t ≤ 9)) = true from by simp; omega] at hk
    obtain ⟨n, rfl⟩ := Int.eq_ofNat_of_zero_le h1
    have HN : Hid (nameV (n : Int) = kn n) := hide (nameV_known h1 h2)
    have h5 : (n : Int) < 10 := by omega
    have hcell : w.cell? ⟨0, n, none⟩ = some (.string (kn n)) := hl.names n (by omega)
    go_enter Tryd.func16, Tryd.ntmps16
    go_wp2_with (go_at_call 20; refine hk.mono ?_; rintro e w1 ⟨rfl, rfl⟩)
    go_wp2_with fail
    go_ret
    exact ⟨by rw [HN.out]; rfl, Below.refl _ _⟩
  · rw [show (decide (0 ≤ t) && decide (t ≤ 9)) = false from by simp; omega] at hk
    obtain ⟨n, rfl⟩ := Int.eq_ofNat_of_zero_le (show 0 ≤ t by omega)
    have HN : Hid (nameV (n : Int) = ⟨#[84, 89, 80, 69, 95] ++ (digs n).toArray⟩) := hide (nameV_text (by omega) (by omega))
    have h3 : (n : Int) > 9 := by omega
    have h4 : (n : Int) ≤ 255 := by omega
    have hc := text_any n (n : Int) (by omega) rfl w hl
    have hl3 : (digs n).toArray.size ≤ 3 := by (unfold digs; repeat' split) <;> simp
    generalize (digs n).toArray = s at hc HN hl3
    go_enter Tryd.func16, Tryd.ntmps16
    go_wp2_with (first | (go_at_call 20; refine hk.mono ?_; rintro e w1 ⟨rfl, rfl⟩) | (go_at_call 22; refine hc.mono ?_; rintro e w1 ⟨rfl, hb⟩))
    have HB := hide hb
    clear hc hb
    go_wp2_with fail
    go_ret
    exact ⟨ret_str (by rw [HN.out, ← str_cat]), HB.out⟩
end Go.Proofs.YtjpjcbdaacifgaaDoor
