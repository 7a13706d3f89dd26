/- Contracts: Codes, Code, Find, of the reference. -/
import Derived.Test.YtlnaedaibhglcaaR
import Derived.LoopTactic
namespace Go.Proofs.Ytlnaedaibhglcaa
open Go.RowKit

def codl : List Nat := (List.range 257).map cod
def outL (i : Nat) : List Nat := (List.range 257).map fun s => if ps s < i then cod s else 0
theorem codl_at {s : Nat} (h : s < 257) : codl[s]? = some (cod s) := by unfold codl; rw [List.getElem?_map, List.getElem?_range h]; rfl
theorem ordl_at {s : Nat} (h : s < 257) : ordl[s]? = some (od s) := by unfold ordl; rw [List.getElem?_map, List.getElem?_range h]; rfl
theorem codl_len : codl.length = 257 := by unfold codl; simp
theorem outL_at (i : Nat) {s : Nat} (h : s < 257) : (outL i)[s]? = some (if ps s < i then cod s else 0) := by unfold outL; rw [List.getElem?_map, List.getElem?_range h]; rfl
theorem outL_len (i : Nat) : (outL i).length = 257 := by unfold outL; simp
theorem outL_all : outL 257 = codl := by
  unfold outL codl
  refine List.map_congr_left fun s hs => ?_
  rw [if_pos (ps_lt s (List.mem_range.1 hs)).1]
theorem outL_step (i : Nat) (h : i < 257) : ints (outL (i + 1)) = (ints (outL i)).set (od i) (.int .i64 (rcd i : Nat)) := by
  apply List.ext_getElem?
  intro s
  have ho := od_lt i h
  rw [List.getElem?_set]
  by_cases hs : s < 257
  · unfold ints
    rw [List.getElem?_map, List.getElem?_map, outL_at _ hs, outL_at _ hs]
    by_cases e : od i = s
    · subst e
      rw [if_pos rfl, ho.2, if_pos (by omega), if_pos (by rw [List.length_map, outL_len]; exact hs), rcd_all i h]; rfl
    · rw [if_neg e]
      have hne : ps s ≠ i := fun e2 => e (by rw [← e2]; exact (ps_lt s hs).2)
      by_cases h2 : ps s < i
      · rw [if_pos h2, if_pos (by omega)]
      · rw [if_neg h2, if_neg (by omega)]
  · rw [if_neg (by omega)]
    unfold ints
    rw [List.getElem?_eq_none (by rw [List.length_map, outL_len]; omega), List.getElem?_eq_none (by rw [List.length_map, outL_len]; omega)]
theorem outL_zero : (madeCells #[Value.int .i64 0] (257 * 1)).toList = ints (outL 0) := by
  rw [Nat.mul_one, toList_madeCells_one]
  unfold ints outL
  apply List.ext_getElem?
  intro s
  by_cases hs : s < 257
  · rw [List.getElem?_replicate, if_pos hs, List.getElem?_map, List.getElem?_map, List.getElem?_range hs]; rfl
  · rw [List.getElem?_replicate, if_neg hs, List.getElem?_eq_none (by simp; omega)]

set_option maxRecDepth 10000 in
set_option maxHeartbeats 2000000 in
theorem codes_any (w : World) : Calls Try.prog 21 #[] w (NPost codl w) := by
  obtain ⟨i0, hi, hz0, hz1, hz2⟩ := info_parts Try.info3
  have HI := hide (And.intro hi (And.intro hz0 (And.intro hz1 hz2)))
  clear hi hz0 hz1 hz2
  go_enter Try.func21, Try.ntmps21
  go_wp2_with fail
  refine (lens_any _).mono ?_
  rintro e w1 ⟨D, DC, rfl, hs1, hb1⟩
  have HS1 := hide hs1
  have HB1 := hide hb1
  have HD := hide lens_len
  rw [HD.out]
  clear hs1 hb1
  go_wp2_with fail
  refine (rord_any _).mono ?_
  rintro e w2 ⟨E, EC, rfl, hs2, hb2⟩
  have HS2 := hide hs2
  have HS1' := hide (HS1.out.kept hb2)
  have HB2 := hide (below_next HB1.out hb2)
  have HE := hide ordl_len
  rw [HE.out]
  clear hs2 hb2 HS1 HB1
  go_wp2_with (at_make; go_loud (refine wpList_make_full _ rfl _ _ 35 rfl w2.heap.size 3 i0 (.int .i64 0) 1 Try.underlying35 HI.out.1 HI.out.2.1 HI.out.2.2.1 .i64 .i64 257 257 257 rfl rfl rfl rfl (by rw [HI.out.2.2.2]; decide) (by decide) (Nat.le_refl _) ?_))
  intro w3 hown3 hg3
  have HO3 : Hid (w3.ownsRow w2.heap.size 3 1 (.slice (some ⟨w2.heap.size, 0, none⟩) 257 257) 257 (ints (outL 0))) := hide (by rw [← outL_zero]; exact hown3)
  have HW3 : Hid (Below w2.heap.size w2 w3) := hide ((Below.refl _ _).grown hg3 (Nat.le_refl _) (fun j hj => by cases hj))
  clear hown3 hg3
  go_wp2_with fail
  go_loopw [4, 5] (fun cc ii wr => ∃ i c : Nat, cc = .int .i64 (c : Nat) ∧ ii = .int .i64 (i : Nat) ∧ i ≤ 257 ∧ Hid (c = if i = 0 then 0 else rcd (i - 1)) ∧ Hid (wr.ownsRow w2.heap.size 3 1 (.slice (some ⟨w2.heap.size, 0, none⟩) 257 257) 257 (ints (outL i))) ∧ Hid (Below w2.heap.size w2 wr)) (fun _ ii _ => 257 - (intOf ii).toNat)
  case atStart => exact ⟨0, 0, rfl, rfl, Nat.zero_le _, hide rfl, HO3, HW3⟩
  case round =>
    clear HO3 HW3
    obtain ⟨i, c, rfl, rfl, hi, HC, HO, HW⟩ := hrel
    by_cases hlt : i < 257
    · have hii : (i : Int) < 257 := by omega
      obtain ⟨eb, eo, rfl, e0⟩ := (HS2.out.kept HW.out) i _ (ints_at _ (ordl_at hlt))
      have ho := od_lt i hlt
      have hol : od i < 257 := ho.1
      have f0 : wr.frozen? ⟨w2.heap.size, od i, none⟩ = false := HO.out.frozenAt _
      have g0 : wr.cell? ⟨w2.heap.size, od i, none⟩ = some (.int .i64 ((if ps (od i) < i then cod (od i) else 0 : Nat) : Int)) := by
        rw [HO.out.cellAt _ (by omega)]; exact ints_at _ (outL_at _ hol)
      have HO1 : Hid ((wr.setCell ⟨w2.heap.size, od i, none⟩ (.int .i64 (rcd i : Nat))).ownsRow w2.heap.size 3 1 (.slice (some ⟨w2.heap.size, 0, none⟩) 257 257) 257 (ints (outL (i + 1)))) := hide (by rw [outL_step i hlt]; exact (HO.out.stored _ _).1)
      have HW1 : Hid (Below w2.heap.size w2 (wr.setCell ⟨w2.heap.size, od i, none⟩ (.int .i64 (rcd i : Nat)))) := hide (HW.out.setCell (Nat.le_refl _) _)
      clear ho
      by_cases hi0 : i = 0
      · have HCR : Hid (c = rcd i) := hide (by rw [HC.out, if_pos hi0, hi0]; rfl)
        have hig : ¬ (0 : Int) < (i : Int) := by omega
        have HC1 : Hid (rcd i = if i + 1 = 0 then 0 else rcd (i + 1 - 1)) := hide (by rw [if_neg (by omega)]; rfl)
        clear hi0
        rw [← HCR.out] at HO1 HW1 HC1
        go_wp2_with fail
        go_roundw
        case rel => exact ⟨i + 1, c, rfl, by go_num, by omega, HC1, HO1, HW1⟩
        case measure => simp [intOf]; omega
      · have hig : (0 : Int) < (i : Int) := by omega
        obtain ⟨eb', eo', he, e1⟩ := (HS2.out.kept HW.out) (i - 1) _ (ints_at _ (ordl_at (s := i - 1) (by omega)))
        obtain ⟨rfl, rfl⟩ : eb = eb' ∧ eo = eo' := by simpa using he
        have ho1 : od (i - 1) < 257 := (od_lt (i - 1) (by omega)).1
        obtain ⟨db, dd, rfl, s0⟩ := (HS1'.out.kept HW.out) (od i) _ (ints_at _ (lens_at hol))
        obtain ⟨db', dd', he', s1⟩ := (HS1'.out.kept HW.out) (od (i - 1)) _ (ints_at _ (lens_at ho1))
        obtain ⟨rfl, rfl⟩ : db = db' ∧ dd = dd' := by simpa using he'
        have z1 := sz_all (od i) hol
        have z2 := sz_all (od (i - 1)) ho1
        have hzz : sz (od (i - 1)) ≤ sz (od i) := by have := sz_step (i - 1) (by omega); rwa [show i - 1 + 1 = i from by omega] at this
        have hrb : rcd i < 1073741824 := by rw [rcd_all i hlt]; exact cod_bound hol
        have hcb : c < 1073741824 := by rw [HC.out, if_neg hi0, rcd_all _ (by omega)]; exact cod_bound ho1
        have hin : ((i : Int) - 1).toNat = i - 1 := by omega
        have hi1 : (i : Int) - 1 < 257 := by omega
        obtain ⟨t, ht⟩ : ∃ t, od (i - 1) = t := ⟨_, rfl⟩
        obtain ⟨u, hu⟩ : ∃ u, od i = u := ⟨_, rfl⟩
        have HRC : Hid ((c + 1) * 2 ^ (sz u - sz t) = rcd i) := hide (by
          obtain ⟨j, rfl⟩ : ∃ j, i = j + 1 := ⟨i - 1, by omega⟩
          rw [HC.out, if_neg hi0, ← ht, ← hu, Nat.add_sub_cancel]; rfl)
        rw [hu] at hol f0 g0 HO1 HW1 e0 s0 z1 hzz
        rw [ht] at ho1 e1 s1 z2 hzz
        clear he he' ht hu HC
        have hti : (t : Int) < 257 := by omega
        have hui : (u : Int) < 257 := by omega
        go_wp2_with fail
        go_loop [4, 6] (fun cc nn => ∃ d m : Nat, cc = .int .i64 (d : Nat) ∧ nn = .int .i64 (m : Nat) ∧ m ≤ sz u ∧ Hid (d * 2 ^ (sz u - m) = rcd i)) (fun _ nn => sz u - (intOf nn).toNat)
        case atStart => exact ⟨c + 1, sz t, by go_num, rfl, hzz, HRC⟩
        case round =>
          obtain ⟨d, m, rfl, rfl, hm, HD2⟩ := hrel
          have hdb : d < 1073741824 := by
            have h1 := HD2.out
            have h2 := Nat.two_pow_pos (sz u - m)
            have h3 : d ≤ d * 2 ^ (sz u - m) := Nat.le_mul_of_pos_right _ h2
            omega
          by_cases hmu : m < sz u
          · have hmi : (m : Int) < (sz u : Nat) := by omega
            have HD3 : Hid ((2 * d) * 2 ^ (sz u - (m + 1)) = rcd i) := hide (by
              have h1 := HD2.out
              rw [show sz u - m = (sz u - (m + 1)) + 1 from by omega, Nat.pow_succ] at h1
              rw [← h1, Nat.mul_comm 2 d, Nat.mul_assoc, Nat.mul_comm 2]
              )
            go_wp2_with fail
            go_round
            case rel => exact ⟨2 * d, m + 1, by go_num, by go_num, by omega, HD3⟩
            case measure => simp [intOf]; omega
          · have hmi : ¬ (m : Int) < (sz u : Nat) := by omega
            have hdr : d = rcd i := by have h1 := HD2.out; rw [show sz u - m = 0 from by omega, Nat.pow_zero, Nat.mul_one] at h1; exact h1
            have hdi : (d : Int) = ((rcd i : Nat) : Int) := by rw [hdr]
            have HC1 : Hid (rcd i = if i + 1 = 0 then 0 else rcd (i + 1 - 1)) := hide (by rw [if_neg (by omega)]; rfl)
            clear hdr
            go_wp2_with fail
            go_roundw
            case rel => exact ⟨i + 1, rcd i, by first | rfl | exact congrArg _ hdi, by go_num, by omega, HC1, HO1, HW1⟩
            case measure => simp [intOf]; omega
    · have HK : Hid (i = 257) := hide (by omega)
      have HS : Hid (Sees wr (some ⟨w2.heap.size, 0, none⟩) (ints codl)) := hide (by
        have h1 := HK.out
        subst h1
        rw [← outL_all]
        exact Sees.of_own HO.out)
      have HF := hide (below_nextB HB2.out HB2.out.size HW.out)
      go_wp2_with fail
      go_ret
      exact ⟨_, 257, by rw [codl_len]; rfl, HS.out, HF.out⟩
end Go.Proofs.Ytlnaedaibhglcaa
