/- The deeds on both memories. -/
import Derived.Test.YtgledbjkjpngeaaU
import Derived.Test.YtgledbjkjpngeaaJ
import Derived.Test.YtgledbjkjpngeaaV
namespace Go.Proofs.Ytgledbjkjpngeaa
open Go.RowKit Go.Maps

/-- What is known of the numbers, with no world in sight. -/
structure Plain (M M0 : Int) (s : St) (bs : List (List Bool)) : Prop where
  eM : M = if M0 ≤ 0 then 0 else M0
  ok : s.Ok
  fits : Fits M s bs
  base : s.base M
theorem Plain.ge {M M0 : Int} {s : St} {bs : List (List Bool)} (h : Plain M M0 s bs) : 0 ≤ M := by rw [h.eM]; split <;> omega

/-- What an operation of the reference says. -/
def ROp (M M0 : Int) (s : St) (q : Bool) (K : Nat → Prop) (w : World) (e : Ending) (w' : World) : Prop :=
  ∃ A1 n1 c1 A2 n2 c2 vs bs, e = .returned (.tuple #[.agg #[.int .i64 M0, .slice A1 n1 c1, .slice A2 n2 c2], .bool q]) ∧ Ref w' (fun b => K b ∨ w.heap.size ≤ b) s.ids bs vs A1 n1 c1 A2 n2 ∧ Plain M M0 s bs ∧ Below w.heap.size w w'

theorem rkeep_op (M M0 x : Int) (s : St) (K : Nat → Prop) (A1 A2 : Option Addr) (n1 c1 n2 c2 : Nat) (bs : List (List Bool)) (vs : List Value) (w : World) (hr : Ref w K s.ids bs vs A1 n1 c1 A2 n2) (hp : Plain M M0 s bs) (hl : s.ids.length ≤ 7) :
    Calls Try.prog 13 #[.agg #[.int .i64 M0, .slice A1 n1 c1, .slice A2 n2 c2], .int .i64 x] w (ROp M M0 (s.keep M x) (s.can M x) K w) := by
  have h1 := hr.l1
  have h2 := hr.l2
  have h3 := fits_few hp.fits hl
  cases hx : posI s.ids x with
  | none =>
    have hc : s.can M x = false := by unfold St.can; rw [hx]
    have hk : s.keep M x = s := by unfold St.keep; rw [hc]; rfl
    rw [hc, hk]
    refine (rkeep_none M0 x K A1 A2 n1 c1 n2 c2 s.ids bs vs w (by omega) hr hx).mono ?_
    rintro e w' ⟨rfl, hb⟩
    exact ⟨_, _, _, _, _, _, _, _, rfl, (hr.kept hb).mono fun b _ h => .inl h, hp, hb⟩
  | some i =>
    have hf := fits_can hp.ge hp.ok hx hp.fits hp.base
    refine (rkeep_some M0 x K A1 A2 n1 c1 n2 c2 i s.ids bs vs w (by omega) (by omega) hr hx _ hf).mono ?_
    intro e w' h
    unfold RKPost at h
    split at h
    · rename_i hc
      obtain ⟨A3, n3, c3, us, out, rfl, r, nd, hm, hb⟩ := h
      rw [hc]
      have hk : (s.keep M x).ids = s.ids := by unfold St.keep; rw [hc, hx]; rfl
      exact ⟨_, _, _, _, _, _, _, _, rfl, by rw [hk]; exact r, ⟨hp.eM, keep_ok x hp.ok, fits_keep hp.ok hx hc hp.fits nd hm, base_keep hp.ge hp.ok hx hp.base hc⟩, hb⟩
    · rename_i hc
      have hc : s.can M x = false := by simpa using hc
      obtain ⟨rfl, hb⟩ := h
      have hk : s.keep M x = s := by unfold St.keep; rw [hc]; rfl
      rw [hc, hk]
      exact ⟨_, _, _, _, _, _, _, _, rfl, (hr.kept hb).mono fun b _ h => .inl h, hp, hb⟩

theorem rclose_op (M M0 x : Int) (s : St) (K : Nat → Prop) (A1 A2 : Option Addr) (n1 c1 n2 c2 : Nat) (bs : List (List Bool)) (vs : List Value) (w : World) (hr : Ref w K s.ids bs vs A1 n1 c1 A2 n2) (hp : Plain M M0 s bs) (hl : (s.close x).ids.length ≤ 7) :
    Calls Try.prog 15 #[.agg #[.int .i64 M0, .slice A1 n1 c1, .slice A2 n2 c2], .int .i64 x] w (ROp M M0 (s.close x) (s.fresh x) K w) := by
  have h1 := hr.l1
  have h2 := hr.l2
  cases hx : posI s.ids x with
  | some i =>
    have hk := close_same hx
    rw [hk] at hl ⊢
    rw [show s.fresh x = false from by unfold St.fresh; rw [hx]; rfl]
    refine (rclose_old M0 x K A1 A2 n1 c1 n2 c2 i s.ids bs vs w (by omega) hr hx).mono ?_
    rintro e w' ⟨rfl, hb⟩
    exact ⟨_, _, _, _, _, _, _, _, rfl, (hr.kept hb).mono fun b _ h => .inl h, hp, hb⟩
  | none =>
    have hk := close_ids hx
    rw [hk, List.length_append, List.length_singleton] at hl
    have h3 := fits_few hp.fits (by omega)
    rw [show s.fresh x = true from by unfold St.fresh; rw [hx]; rfl]
    refine (rclose_new M0 x K A1 A2 n1 c1 n2 c2 s.ids bs vs w (by omega) (by omega) hr hx).mono ?_
    rintro e w' ⟨A, c, A3, n3, c3, us, out, rfl, r, nd, hm, hb⟩
    exact ⟨_, _, _, _, _, _, _, _, rfl, by rw [hk]; exact r, ⟨hp.eM, close_ok x hp.ok, fits_close hp.eM hp.ok hx hp.fits nd hm, base_close hp.ge hp.ok hx hp.base⟩, hb⟩

/-- Both memories, the reference's in a block. -/
structure Duo (w0 w : World) (g T : Nat) (M M0 : Int) (s : St) (F : List Nat) (rb : Nat) (ids : List Int) (bs : List (List Bool)) (vs : List Value) (A1 : Option Addr) (n1 c1 : Nat) (A2 : Option Addr) (n2 c2 : Nat) : Prop where
  a : Gr w g M s F T
  r : Ref w (fun b => b ∉ F ∧ b ≠ rb) ids bs vs A1 n1 c1 A2 n2
  box : Blk w rb 30 #[.int .i64 M0, .slice A1 n1 c1, .slice A2 n2 c2]
  nf : rb ∉ F
  rge : w0.heap.size ≤ rb
  ge : ∀ c ∈ F, w0.heap.size ≤ c
  bel : Below w0.heap.size w0 w
section
variable {w0 w w' : World} {g T : Nat} {M M0 x : Int} {s s' : St} {F : List Nat} {rb : Nat} {ids ids' : List Int} {bs bs' : List (List Bool)} {vs vs' : List Value} {A1 A2 A1' A2' : Option Addr} {n1 c1 n2 c2 n1' c1' n2' c2' : Nat} {q : Bool} {e : Ending}
theorem Duo.kept (h : Duo w0 w g T M M0 s F rb ids bs vs A1 n1 c1 A2 n2 c2) (hb : Below w.heap.size w w') : Duo w0 w' g T M M0 s F rb ids bs vs A1 n1 c1 A2 n2 c2 :=
  ⟨h.a.kept hb, h.r.kept hb, h.box.kept hb, h.nf, h.rge, h.ge, below_nextB h.bel h.bel.size hb⟩
/-- The memory moves on. -/
theorem Duo.op (h : Duo w0 w g T M M0 s F rb ids bs vs A1 n1 c1 A2 n2 c2) (o : OpPost g M q s' F T w e w') :
    e = .returned (.bool q) ∧ ∃ F', Duo w0 w' g (T + 1) M M0 s' F' rb ids bs vs A1 n1 c1 A2 n2 c2 ∧ ∀ d t cs, Blk w d t cs → d ∉ F → Blk w' d t cs ∧ d ∉ F' := by
  obtain ⟨he, F', hG, hO, hS⟩ := o
  have hout : ∀ d, d ∉ F → d < w.heap.size → d ∉ F' := fun d hd hl hm => by
    rcases hS d hm with h1 | h1
    · exact hd h1
    · omega
  refine ⟨he, F', ⟨hG, ?_, h.box.only hO h.nf, hout rb h.nf h.box.lt, h.rge, fun c hc => ?_, h.bel.trans (hO.below h.bel.size h.ge)⟩, fun d t cs hd hn => ⟨hd.only hO hn, hout d hn hd.lt⟩⟩
  · have h1 := h.r.mono (K' := fun b => (b ∉ F ∧ b ≠ rb) ∧ b < w.heap.size) fun b hb hk => ⟨hk, hb⟩
    exact (h1.only hO fun b hk => hk.1.1).mono fun b _ hk => ⟨hout b hk.1.1 hk.2, hk.1.2⟩
  · rcases hS c hc with h1 | h1
    · exact h.ge c h1
    · have := h.bel.size; omega
/-- The reference moves on, and is stored. -/
theorem Duo.set (h : Duo w0 w g T M M0 s F rb ids bs vs A1 n1 c1 A2 n2 c2) (hb : Below w.heap.size w w') (hr : Ref w' (fun b => (b ∉ F ∧ b ≠ rb) ∨ w.heap.size ≤ b) ids' bs' vs' A1' n1' c1' A2' n2') :
    Duo w0 (((w'.setCell ⟨rb, 0, none⟩ (.int .i64 M0)).setCell ⟨rb, 1, none⟩ (.slice A1' n1' c1')).setCell ⟨rb, 2, none⟩ (.slice A2' n2' c2')) g T M M0 s F rb ids' bs' vs' A1' n1' c1' A2' n2' c2' := by
  have h1 := h.kept hb
  have hrb : ∀ b, b ∉ F ∧ b ≠ rb → b ∉ [rb] := fun b hk hm => hk.2 (List.mem_singleton.1 hm)
  have hFb : ∀ b ∈ F, b ∉ [rb] := fun b hm hk => h.nf (by rw [← List.mem_singleton.1 hk]; exact hm)
  have hK := hr.mono (K' := fun b => b ∉ F ∧ b ≠ rb) fun b _ hk => hk.elim id fun h2 => ⟨fun hm => by have := h.a.inF b hm; omega, fun e => by have := h.box.lt; omega⟩
  have RR := ((h1.box.store 0 (.int .i64 M0)).store 1 (.slice A1' n1' c1')).store 2 (.slice A2' n2' c2')
  have O0 := Only.store (F := [rb]) w' (p := ⟨rb, 0, none⟩) (List.mem_singleton.2 rfl) (.int .i64 M0)
  have O1 := Only.store (F := [rb]) (w'.setCell ⟨rb, 0, none⟩ (.int .i64 M0)) (p := ⟨rb, 1, none⟩) (List.mem_singleton.2 rfl) (.slice A1' n1' c1')
  have O2 := Only.store (F := [rb]) ((w'.setCell ⟨rb, 0, none⟩ (.int .i64 M0)).setCell ⟨rb, 1, none⟩ (.slice A1' n1' c1')) (p := ⟨rb, 2, none⟩) (List.mem_singleton.2 rfl) (.slice A2' n2' c2')
  exact ⟨((h1.a.only O0 hFb).only O1 hFb).only O2 hFb, ((hK.only O0 hrb).only O1 hrb).only O2 hrb, RR, h.nf, h.rge, h.ge, ((h1.bel.setCell h.rge _).setCell h.rge _).setCell h.rge _⟩
theorem Duo.can (h : Duo w0 w g T M M0 s F rb s.ids bs vs A1 n1 c1 A2 n2 c2) (hp : Plain M M0 s bs) : hasZ s.ids bs x = s.can M x := by
  have _ := h
  exact hasZ_can hp.ge hp.ok hp.fits hp.base
end

/-- How many of the deeds close. -/
def shut (l : List (Bool × Int)) : Nat := (l.filter fun d => !d.1).length
theorem shut_snoc {l : List (Bool × Int)} {k : Nat} {b : Bool} {x : Int} (h : l[k]? = some (b, x)) : shut (l.take (k + 1)) = shut (l.take k) + if b then 0 else 1 := by
  have hk := (List.getElem?_eq_some_iff.1 h)
  obtain ⟨hk1, hk2⟩ := hk
  unfold shut
  rw [List.take_succ_eq_append_getElem hk1, hk2, List.filter_append, List.length_append]
  cases b <;> rfl
theorem shut_le (l : List (Bool × Int)) (k : Nat) : shut (l.take k) ≤ shut l := by
  unfold shut
  exact ((List.take_sublist k l).filter _).length_le
theorem shut_len (l : List (Bool × Int)) : shut l ≤ l.length := List.length_filter_le _ _

set_option maxRecDepth 10000 in
theorem shut_any (A : Option Addr) (n c : Nat) (l : List (Bool × Int)) (w : World) (h : n ≤ 30) (HL : Hid (l.length = n)) (HS : Hid (Deeds w A l)) : Calls Try.prog 6 #[.slice A n c] w fun e w' => e = .returned (.int .i64 (shut l : Nat)) ∧ w = w' := by
  have hsl := hide (shut_len l)
  go_enter Try.func6, Try.ntmps6
  go_wp2_with fail
  go_loopw [3, 4] (fun cc ii wr => ∃ (k : Nat), cc = .int .i64 (shut (l.take k) : Nat) ∧ ii = .int .i64 (k : Nat) ∧ k ≤ n ∧ w = wr) (fun _ ii _ => n - (intOf ii).toNat)
  case atStart => exact ⟨0, by simp [shut], rfl, Nat.zero_le _, rfl⟩
  case round =>
    obtain ⟨k, rfl, rfl, hk, rfl⟩ := hrel
    by_cases hlt : k < n
    · have hki : (k : Int) < (n : Int) := by omega
      have hkl : k < l.length := by have := HL.out; omega
      obtain ⟨kp, x, hst⟩ : ∃ kp x, l[k] = (kp, x) := ⟨_, _, rfl⟩
      have HN := hide (shut_snoc (k := k) (b := kp) (x := x) (by rw [List.getElem?_eq_getElem hkl, hst]))
      have HK := hide (Nat.le_trans (shut_le l k) hsl.out)
      obtain ⟨hwf, bb, oo, rfl, t0, t1⟩ := HS.out k kp x (by rw [List.getElem?_eq_getElem hkl, hst])
      have HM : Hid (shut (List.take k l) ≤ 30) := hide (by have := HK.out; have := HL.out; omega)
      clear t1 hst hkl hwf
      obtain ⟨m, hm⟩ : ∃ m, shut (l.take k) = m := ⟨_, rfl⟩
      rw [hm] at HM HN ⊢
      have hm30 := HM.out
      cases kp
      · go_wp2_with fail
        go_roundw
        case rel => exact ⟨k + 1, by rw [HN.out]; go_num, by go_num, by omega, trivial⟩
        case measure => simp [intOf]; omega
      · go_wp2_with fail
        go_roundw
        case rel => exact ⟨k + 1, by rw [HN.out]; rfl, by go_num, by omega, trivial⟩
        case measure => simp [intOf]; omega
    · obtain rfl : k = n := by omega
      have ht : Hid (l.take k = l) := hide (List.take_of_length_le (by have := HL.out; omega))
      rw [ht.out]
      go_wp2_with fail
      go_ret
      exact ⟨rfl, rfl⟩
end Go.Proofs.Ytgledbjkjpngeaa
