/- The code's numbers: sizes, first codes, the order, codes; each thirty bits begin with just one code. Plain laws, with no program in sight. -/
import Derived.Test.YtlnaedaibhglcaaK0
namespace Go.Proofs.Ytlnaedaibhglcaa
open Go.RowKit

/-- How many bits a symbol's code has. -/
def sz (k : Nat) : Nat := 641955382321912194599792288565958003953670364411391622815011922051883476648353700098758403018446105835708691112309118709977125562878580752221511802022391798247357707470344048826597114901107676810096344736435271221506714532622565799831040962835700045010847411177001988163449983113752153488019000501875942907138091160383928438928139044531258407706737907420343299405533132849564897785049837 / 32 ^ k % 32
/-- The symbols in their order, and where each stands. -/
def od (i : Nat) : Nat := 958126711861008924174727833134821517044029075559507188719750788970182944804540306620444057187600138107764483860295479627263777434921667296999483736597070627616921661135665514611317435697355120637746800114239126834050841505713246491234273502705996029930893736447259982488481085938917664474295011285251839597906849379801022003800340750811599200550167858470268856741576264419129331266417873177907160045854938773359811046872187554350749925755064485645122805161509370849221920574670787962009527179559520254283871060785008489223081264582225926838138464884275047431841091939508493491620159687185017823424462619195396351932368334201780248398263004638724943865472514789205536560358458300423227691976122928 / 512 ^ i % 512
def ps (s : Nat) : Nat := 959459898612244200642569963529585937700870224476275914638410189726178161055802952910124591003123611507311071813175212346067548142196910891173264544151119439548827931368087017525070665621812136153400293598082061216798996903361182605683411471132833046039161467918532230287850780947822386438173938239718689086773219733709430154707324941914569480853439110892265947966325962090361883425266708404423429829015496684835580295200302319850228020939885360362484209166063054487874806025366566664097929922680274017183237803042836676788864863326951443783415955612253283648681270562530391233280793507753293898839858883332154566329480914951262983025713805120314854843200225724913244431902346057807443101411779156 / 512 ^ s % 512
/-- How many of the first k symbols have codes of n bits; which. -/
def cnt (n : Nat) : Nat → Nat
  | 0 => 0
  | k + 1 => cnt n k + if sz k = n then 1 else 0
def flt (n : Nat) : Nat → List Nat
  | 0 => []
  | k + 1 => if sz k = n then flt n k ++ [k] else flt n k
/-- The first code of n bits; the symbols whose codes have n bits at most. -/
def fs : Nat → Nat
  | 0 => 0
  | n + 1 => 2 * (fs n + cnt n 257)
def ordTo : Nat → List Nat
  | 0 => []
  | n + 1 => ordTo n ++ flt (n + 1) 257
/-- A symbol's code. -/
def cod (s : Nat) : Nat := fs (sz s) + cnt (sz s) s

theorem sz_all : ∀ k, k < 257 → 5 ≤ sz k ∧ sz k ≤ 30 := by decide +kernel
theorem sz_lt (k : Nat) : sz k < 32 := Nat.mod_lt _ (by decide)
theorem flt_length (n : Nat) : ∀ k, (flt n k).length = cnt n k
  | 0 => rfl
  | k + 1 => by
    unfold flt cnt
    split
    · rw [List.length_append, flt_length n k]; rfl
    · rw [flt_length n k]; rfl
theorem cnt_mono (n : Nat) {j k : Nat} (h : j ≤ k) : cnt n j ≤ cnt n k := by
  induction h with
  | refl => exact Nat.le_refl _
  | step _ ih => exact Nat.le_trans ih (Nat.le_add_right _ _)
theorem cnt_le (n : Nat) : ∀ k, cnt n k ≤ k
  | 0 => Nat.le_refl _
  | k + 1 => by unfold cnt; have := cnt_le n k; split <;> omega
theorem fs_bound : ∀ n, n < 31 → fs n + cnt n 257 ≤ 1073741824 := by decide +kernel
theorem ord_len : ∀ n, n < 31 → (ordTo n).length ≤ 257 := by decide +kernel
theorem ord_all : ordTo 30 = (List.range 257).map od := by decide +kernel
theorem od_lt : ∀ i, i < 257 → od i < 257 ∧ ps (od i) = i := by decide +kernel
theorem ps_lt : ∀ s, s < 257 → ps s < 257 ∧ od (ps s) = s := by decide +kernel
theorem ordTo_sub (n : Nat) : ∀ x ∈ ordTo n, x < 257 := by
  have hf : ∀ m k, ∀ x ∈ flt m k, x < k := by
    intro m k
    induction k with
    | zero => intro x hx; cases hx
    | succ k ih =>
      intro x hx
      unfold flt at hx
      split at hx
      · rw [List.mem_append] at hx
        rcases hx with hx | hx
        · exact Nat.lt_succ_of_lt (ih x hx)
        · rw [List.mem_singleton] at hx; omega
      · exact Nat.lt_succ_of_lt (ih x hx)
  induction n with
  | zero => intro x hx; cases hx
  | succ n ih =>
    intro x hx
    unfold ordTo at hx
    rw [List.mem_append] at hx
    rcases hx with hx | hx
    · exact ih x hx
    · exact hf _ _ x hx
theorem cod_lt : ∀ s, s < 257 → cod s < 2 ^ sz s := by decide +kernel
theorem cod_bound {s : Nat} (h : s < 257) : cod s < 1073741824 := Nat.lt_of_lt_of_le (cod_lt s h) (Nat.pow_le_pow_right (by decide) (sz_all s h).2)

/-! ### Where a symbol stands among those of its size -/
theorem flt_at (n : Nat) : ∀ K i s, (flt n K)[i]? = some s → cnt n s = i ∧ sz s = n ∧ s < K
  | 0, i, s, h => by simp [flt] at h
  | K + 1, i, s, h => by
    unfold flt at h
    split at h
    · rename_i hz
      by_cases hi : i < (flt n K).length
      · rw [List.getElem?_append_left hi] at h
        have := flt_at n K i s h
        exact ⟨this.1, this.2.1, by omega⟩
      · rw [List.getElem?_append_right (by omega)] at h
        have hi2 : i - (flt n K).length = 0 := by
          have := (List.getElem?_eq_some_iff.1 h).1
          simp at this; omega
        rw [hi2] at h
        simp at h
        subst h
        rw [flt_length] at hi hi2
        exact ⟨by omega, hz, by omega⟩
    · have := flt_at n K i s h
      exact ⟨this.1, this.2.1, by omega⟩
theorem flt_get (n : Nat) : ∀ K s, s < K → sz s = n → (flt n K)[cnt n s]? = some s
  | 0, s, h, _ => by omega
  | K + 1, s, h, hz => by
    unfold flt
    by_cases hs : s = K
    · subst hs
      rw [if_pos hz, List.getElem?_append_right (by rw [flt_length]; exact Nat.le_refl _), flt_length]
      simp
    · have := flt_get n K s (by omega) hz
      split
      · rw [List.getElem?_append_left (List.getElem?_eq_some_iff.1 this).1]; exact this
      · exact this
theorem ord_at : ∀ (n m : Nat), m < n → ∀ i x, (flt (m + 1) 257)[i]? = some x → (ordTo n)[(ordTo m).length + i]? = some x
  | 0, m, h, _, _, _ => by omega
  | n + 1, m, h, i, x, hx => by
    rw [show ordTo (n + 1) = ordTo n ++ flt (n + 1) 257 from rfl]
    by_cases hm : m = n
    · subst hm
      rw [List.getElem?_append_right (by omega)]
      rw [show (ordTo m).length + i - (ordTo m).length = i from by omega]; exact hx
    · have := ord_at n m (by omega) i x hx
      rw [List.getElem?_append_left (List.getElem?_eq_some_iff.1 this).1]; exact this

/-! ### The codes as the reference reckons them -/
def rcd : Nat → Nat
  | 0 => 0
  | i + 1 => (rcd i + 1) * 2 ^ (sz (od (i + 1)) - sz (od i))
theorem rcd_all : ∀ i, i < 257 → rcd i = cod (od i) := by decide +kernel
theorem sz_step : ∀ i, i < 256 → sz (od i) ≤ sz (od (i + 1)) := by decide +kernel

/-! ### Each thirty bits begin with just one code -/
def bg (i : Nat) : Nat := if i < 257 then cod (od i) * 2 ^ (30 - sz (od i)) else 1073741824
theorem bg_step : ∀ i, i < 257 → (cod (od i) + 1) * 2 ^ (30 - sz (od i)) = bg (i + 1) := by decide +kernel
theorem bg_zero : bg 0 = 0 := by decide +kernel
theorem bg_lt {i : Nat} (h : i < 257) : bg i < bg (i + 1) := by
  rw [← bg_step i h]
  unfold bg
  rw [if_pos h, Nat.add_mul]
  have := Nat.two_pow_pos (30 - sz (od i))
  omega
theorem bg_mono {i j : Nat} (h : i ≤ j) (hj : j ≤ 257) : bg i ≤ bg j := by
  induction h with
  | refl => exact Nat.le_refl _
  | step hh ih => exact Nat.le_trans (ih (by omega)) (Nat.le_of_lt (bg_lt (by omega)))
/-- Do some bits begin with a symbol's code? -/
def hit (v s : Nat) : Bool := v / 2 ^ (30 - sz s) == cod s
theorem hit_iff (v i : Nat) (h : i < 257) : hit v (od i) = true ↔ bg i ≤ v ∧ v < bg (i + 1) := by
  rw [← bg_step i h]
  unfold hit bg
  rw [if_pos h, beq_iff_eq]
  have hp := Nat.two_pow_pos (30 - sz (od i))
  constructor
  · intro e
    rw [← e]
    exact ⟨Nat.div_mul_le_self _ _, by rw [Nat.add_mul, Nat.one_mul]; exact Nat.lt_div_mul_add hp⟩
  · rintro ⟨h1, h2⟩
    exact Nat.div_eq_of_lt_le h1 h2
def many (v : Nat) : Nat → Nat
  | 0 => 0
  | k + 1 => many v k + if hit v k then 1 else 0
theorem some_hit (v m : Nat) : m ≤ 257 → v < bg m → ∃ i, i < m ∧ hit v (od i) = true := by
  induction m with
  | zero => intro _ h; rw [bg_zero] at h; omega
  | succ m ih =>
    intro hm h
    by_cases h2 : v < bg m
    · obtain ⟨i, hi, h3⟩ := ih (by omega) h2
      exact ⟨i, by omega, h3⟩
    · exact ⟨m, by omega, (hit_iff v m (by omega)).2 ⟨by omega, h⟩⟩
theorem one_hit (v i j : Nat) (hi : i < 257) (hj : j < 257) (h1 : hit v (od i) = true) (h2 : hit v (od j) = true) : i = j := by
  have a := (hit_iff v i hi).1 h1
  have b := (hit_iff v j hj).1 h2
  rcases Nat.lt_trichotomy i j with h | h | h
  · have := bg_mono (show i + 1 ≤ j from h) (by omega); omega
  · exact h
  · have := bg_mono (show j + 1 ≤ i from h) (by omega); omega
theorem many_le (v : Nat) : ∀ k, many v k ≤ k
  | 0 => Nat.le_refl _
  | k + 1 => by unfold many; have := many_le v k; split <;> omega
theorem many_one (v : Nat) (h : v < 1073741824) : many v 257 = 1 := by
  obtain ⟨i, hi, h1⟩ := some_hit v 257 (Nat.le_refl _) (by rw [show bg 257 = 1073741824 from rfl]; exact h)
  have hn : ∀ s, s < 257 → (hit v s = true ↔ s = od i) := by
    intro s hs
    constructor
    · intro h2
      have e := (ps_lt s hs).2
      have := one_hit v i (ps s) hi (ps_lt s hs).1 h1 (by rw [e]; exact h2)
      rw [this, e]
    · rintro rfl; exact h1
  have hm : ∀ k, k ≤ 257 → many v k = if od i < k then 1 else 0 := by
    intro k
    induction k with
    | zero => intro _; simp [many]
    | succ k ih =>
      intro hk
      unfold many
      rw [ih (by omega)]
      by_cases hh : hit v k = true
      · have := (hn k (by omega)).1 hh
        rw [if_pos hh, if_neg (by omega), if_pos (by omega)]
      · have : k ≠ od i := fun e => hh ((hn k (by omega)).2 e)
        rw [if_neg hh]
        by_cases h2 : od i < k
        · rw [if_pos h2, if_pos (by omega)]
        · rw [if_neg h2, if_neg (by omega)]
  rw [hm 257 (Nat.le_refl _), if_pos (od_lt i hi).1]
end Go.Proofs.Ytlnaedaibhglcaa
