/- The program's Steer and the reference's answer alike at every five whole numbers. No condition. -/
import Derived.Test.YtcdchmdkcdlklaaPFnExactSteerx5
import Derived.Laws.BitsAllLaws
namespace Go.Proofs.Ytcdchmdkcdlklaa.Pure
open Go.RowKit Go.Proofs.Ytcdchmdkcdlklaa.PFnExactSteer Go.Proofs.YtcdchmdkcdlklaaW.PrintWords Go.Proofs.YtcdchmdkcdlklaaW.PrintLast Go.Proofs.YtcdchmdkcdlklaaW.PrintMore
set_option linter.unusedVariables false
set_option linter.unusedSimpArgs false
/-! #### whole numbers: wraps, quotients towards nought -/
theorem wrap_small {i : Int} (h0 : -9223372036854775808 ≤ i) (h1 : i ≤ 9223372036854775807) : wrap64 i = i := by unfold wrap64; omega
theorem tdiv_pos {a b : Int} (ha : 0 ≤ a) : Int.tdiv a b = a / b := Int.tdiv_eq_ediv_of_nonneg ha
theorem tmod_pos {a b : Int} (ha : 0 ≤ a) : Int.tmod a b = a % b := Int.tmod_eq_emod_of_nonneg ha
theorem tdiv_neg' {a b : Int} (ha : a < 0) : Int.tdiv a b = -((-a) / b) := by
  rw [← Int.tdiv_eq_ediv_of_nonneg (a := -a) (by omega), Int.neg_tdiv, Int.neg_neg]
theorem tmod_neg' {a b : Int} (ha : a < 0) : Int.tmod a b = -((-a) % b) := by
  rw [← Int.tmod_eq_emod_of_nonneg (a := -a) (by omega), Int.neg_tmod, Int.neg_neg]
theorem wf64 {a : Int} (h : (Lit.int .i64 a).wf = true) : -9223372036854775808 ≤ a ∧ a ≤ 9223372036854775807 := by
  simp [Lit.wf, IntKind.min, IntKind.max, IntKind.signed, IntKind.bits] at h
  omega
theorem ev_succ {α : Type} {g : Nat → Option α} {r : α} (h : Ev (fun k => g (k + 1)) r) : Ev g r := Ev.step (f := fun k => g (k + 1)) (fun _ => rfl) h
theorem ev_eq {α : Type} {g : Nat → Option α} {r : α} (h : ∀ k, g k = some r) : Ev g r := ⟨0, fun k _ => h k⟩
theorem ev_val {α : Type} {g : Nat → Option α} {r r' : α} (h : Ev g r) (e : r = r') : Ev g r' := e ▸ h
/-! #### is a number in a span -/
def inB (a b c : Int) : Bool := decide (b ≤ a ∧ a ≤ c)
theorem inB_iff {a b c : Int} : inB a b c = true ↔ b ≤ a ∧ a ≤ c := by unfold inB; rw [decide_eq_true_eq]
theorem spec_in (a b c : Int) : spec_l1In.f a b c = some (inB a b c) := by
  unfold spec_l1In.f inB
  by_cases h : a ≥ b
  · rw [if_pos h]; congr 1; rw [decide_eq_decide]; omega
  · rw [if_neg h]; congr 1; exact (decide_eq_false (by omega)).symm
theorem impl_in (a b c : Int) : impl_inRange.f a b c = some (inB a b c) := by
  unfold impl_inRange.f inB
  by_cases h : b ≤ a
  · rw [if_pos h]; congr 1; rw [decide_eq_decide]; omega
  · rw [if_neg h]; congr 1; exact (decide_eq_false (by omega)).symm
/-! #### loops that go up, from a place on -/
theorem Ev_up {σ ρ : Type} (g : Nat → Nat → σ → Option ρ) (n : Nat) (Inv : Nat → σ → Prop) (Post : ρ → Prop)
    (hend : ∀ s, Inv n s → ∃ r, Ev (fun k => g k n s) r ∧ Post r)
    (hstep : ∀ i s, i < n → Inv i s → (∃ r, Ev (fun k => g k i s) r ∧ Post r) ∨ (∃ s', Inv (i + 1) s' ∧ ∀ r, Ev (fun k => g k (i + 1) s') r → Ev (fun k => g k i s) r))
    (d : Nat) : ∀ i s, n - i = d → i ≤ n → Inv i s → ∃ r, Ev (fun k => g k i s) r ∧ Post r := by
  induction d with
  | zero =>
    intro i s hd hi hs
    obtain rfl : i = n := by omega
    exact hend s hs
  | succ d ih =>
    intro i s hd hi hs
    rcases hstep i s (by omega) hs with h | ⟨s', hs', hg⟩
    · exact h
    · obtain ⟨r, hr, hp⟩ := ih (i + 1) s' (by omega) (by omega) hs'
      exact ⟨r, hg r hr, hp⟩
theorem succ_cast {i n : Nat} (h : i < n) (hn : n ≤ 9223372036854775806) : wrap64 ((i : Int) + 1) = ((i + 1 : Nat) : Int) := by
  rw [wrap_small (by omega) (by omega)]; omega
theorem drop_cons {α : Type} {l : List α} {i : Nat} (h : i < l.length) : l.drop i = l[i] :: l.drop (i + 1) := List.drop_eq_getElem_cons h
theorem rd_at {l : List Int} {i : Nat} (h : i < l.length) : rd l (i : Int) = l[i] := by simp [rd, h]
/-! #### fixed numbers -/
def fixB (a : Int) : Bool := inB a (-1099511627776) 1099511627776
theorem fixB_iff {a : Int} : fixB a = true ↔ -1099511627776 ≤ a ∧ a ≤ 1099511627776 := inB_iff
theorem spec_fix (a : Int) : spec_GoodFixed.f a = some (fixB a) := by unfold spec_GoodFixed.f; rw [spec_in]; rfl
theorem impl_fix (a : Int) : impl_GoodFixed.f a = some (fixB a) := by unfold impl_GoodFixed.f; rw [impl_in]; rfl
theorem impl_fixes_from (l : List Int) (hl : l.length ≤ 9223372036854775806) (d : Nat) : ∀ i : Nat, l.length - i = d → i ≤ l.length → Ev (fun k => impl_areFixed.l0 k l (l.length : Int) (i : Int)) ((l.drop i).all fixB) := by
  induction d with
  | zero =>
    intro i hd hi
    have e : l.drop i = [] := List.drop_eq_nil_of_le (by omega)
    have h1 : ¬ (i : Int) < (l.length : Int) := by omega
    rw [e]
    refine ev_succ ?_
    simp only [impl_areFixed.l0, if_neg h1]
    exact Ev.now _
  | succ d ih =>
    intro i hd hi
    have hlt : i < l.length := by omega
    have h1 : (i : Int) < (l.length : Int) := by omega
    have h2 : 0 ≤ (i : Int) := by omega
    have hs := succ_cast hlt hl
    rw [drop_cons hlt, List.all_cons]
    refine ev_succ ?_
    simp only [impl_areFixed.l0, if_pos h1, if_pos h2, impl_fix, rd_at hlt, hs, Option.bind_some]
    cases hb : fixB l[i] with
    | true =>
      simp only [if_true, Bool.true_and]
      exact ih (i + 1) (by omega) (by omega)
    | false =>
      simp only [Bool.false_eq_true, if_false, Bool.false_and]
      exact Ev.now _
theorem impl_fixes (l : List Int) (hl : l.length ≤ 9223372036854775806) : Ev (fun k => impl_areFixed.f k l) (l.all fixB) := by
  have := impl_fixes_from l hl l.length 0 (by omega) (by omega)
  rw [List.drop_zero] at this
  exact this
/-! #### products of 128 bits -/
theorem wu (n : Int) : IntKind.u64.wrap n = n % 18446744073709551616 := by simp [IntKind.wrap, IntKind.bits, IntKind.signed]
theorem wu_in {n : Int} (h0 : 0 ≤ n) (h1 : n < 18446744073709551616) : IntKind.u64.wrap n = n := by rw [wu]; omega
theorem wraps_u64 (n : Int) (h₀ : 0 ≤ n) (h₁ : n < 2 ^ 64) : IntKind.u64.wrap n = n := wu_in h₀ (by simpa using h₁)
theorem or_join {m y : Int} (h0 : 0 ≤ m) (h1 : m < 4294967296) (g0 : 0 ≤ y) (g1 : y < 4294967296) : Go.bits .or .u64 (m * 4294967296) y = m * 4294967296 + y := by
  exact Go.bits_join .u64 64 (by decide) wraps_u64 32 (m * 4294967296) y (by omega) (by omega) (by omega) g0 (by omega) (by omega)
theorem mul_lt32 {a b : Int} (a0 : 0 ≤ a) (a1 : a < 4294967296) (b0 : 0 ≤ b) (b1 : b < 4294967296) : 0 ≤ a * b ∧ a * b ≤ 18446744065119617025 :=
  ⟨Int.mul_nonneg a0 b0, Int.le_trans (Int.mul_le_mul (show a ≤ 4294967295 by omega) (show b ≤ 4294967295 by omega) b0 (by omega)) (by omega)⟩
theorem spec_times {a b : Int} (a0 : 0 ≤ a) (a1 : a < 18446744073709551616) (b0 : 0 ≤ b) (b1 : b < 18446744073709551616) : spec_l1Times.f a b = some (a * b / 18446744073709551616, a * b % 18446744073709551616) := by
  unfold spec_l1Times.f
  rw [tdiv_pos a0, tdiv_pos b0, tmod_pos a0, tmod_pos b0]
  obtain ⟨y, hy⟩ : ∃ y, a / 4294967296 = y := ⟨_, rfl⟩
  obtain ⟨x, hx⟩ : ∃ x, a % 4294967296 = x := ⟨_, rfl⟩
  obtain ⟨v, hv⟩ : ∃ v, b / 4294967296 = v := ⟨_, rfl⟩
  obtain ⟨u, hu⟩ : ∃ u, b % 4294967296 = u := ⟨_, rfl⟩
  rw [hy, hx, hv, hu]
  have y0 : 0 ≤ y ∧ y < 4294967296 := by omega
  have x0 : 0 ≤ x ∧ x < 4294967296 := by omega
  have v0 : 0 ≤ v ∧ v < 4294967296 := by omega
  have u0 : 0 ≤ u ∧ u < 4294967296 := by omega
  have ha : a = y * 4294967296 + x := by omega
  have hb : b = v * 4294967296 + u := by omega
  clear hy hx hv hu a0 a1 b0 b1
  have P := mul_lt32 y0.1 y0.2 v0.1 v0.2
  have Q := mul_lt32 y0.1 y0.2 u0.1 u0.2
  have R := mul_lt32 x0.1 x0.2 v0.1 v0.2
  have S := mul_lt32 x0.1 x0.2 u0.1 u0.2
  have E : a * b = (y * v) * 18446744073709551616 + (y * u) * 4294967296 + (x * v) * 4294967296 + x * u := by
    rw [ha, hb, Int.add_mul, Int.mul_add, Int.mul_add]
    have e1 : y * 4294967296 * (v * 4294967296) = (y * v) * 18446744073709551616 := by
      rw [Int.mul_assoc, Int.mul_left_comm 4294967296 v 4294967296, ← Int.mul_assoc]; rfl
    have e2 : y * 4294967296 * u = (y * u) * 4294967296 := by rw [Int.mul_assoc, Int.mul_comm 4294967296 u, ← Int.mul_assoc]
    have e3 : x * (v * 4294967296) = (x * v) * 4294967296 := by rw [← Int.mul_assoc]
    rw [e1, e2, e3]; omega
  rw [E, wu_in (n := y) (by omega) (by omega), wu_in (n := v) (by omega) (by omega)]
  clear E ha hb
  generalize y * v = p at *
  generalize y * u = q at *
  generalize x * v = r at *
  generalize x * u = s at *
  rw [wu_in (n := p) (by omega) (by omega), wu_in (n := q) (by omega) (by omega), wu_in (n := r) (by omega) (by omega), wu_in (n := s) (by omega) (by omega)]
  rw [tdiv_pos (a := s) (by omega), tmod_pos (a := s) (by omega), wu_in (n := s / 4294967296) (by omega) (by omega), wu_in (n := q + s / 4294967296) (by omega) (by omega)]
  rw [tdiv_pos (a := q + s / 4294967296) (by omega), tmod_pos (a := q + s / 4294967296) (by omega), wu_in (n := (q + s / 4294967296) / 4294967296) (by omega) (by omega), wu_in (n := r + (q + s / 4294967296) % 4294967296) (by omega) (by omega)]
  rw [tdiv_pos (a := r + (q + s / 4294967296) % 4294967296) (by omega), wu_in (n := (r + (q + s / 4294967296) % 4294967296) / 4294967296) (by omega) (by omega)]
  rw [wu_in (n := p + (q + s / 4294967296) / 4294967296) (by omega) (by omega), wu_in (n := p + (q + s / 4294967296) / 4294967296 + (r + (q + s / 4294967296) % 4294967296) / 4294967296) (by omega) (by omega)]
  rw [wu, show (r + (q + s / 4294967296) % 4294967296) * 4294967296 % 18446744073709551616 = (r + (q + s / 4294967296) % 4294967296) % 4294967296 * 4294967296 by omega, or_join (by omega) (by omega) (by omega) (by omega)]
  congr 1
  rw [Prod.mk.injEq]
  omega
theorem spec_less {a b c d : Int} (b0 : 0 ≤ b) (b1 : b < 18446744073709551616) (d0 : 0 ≤ d) (d1 : d < 18446744073709551616) : spec_l1Less.f a b c d = some (decide (a * 18446744073709551616 + b < c * 18446744073709551616 + d)) := by
  unfold spec_l1Less.f
  by_cases h : a < c
  · rw [if_pos h, decide_eq_true (by omega)]
  · rw [if_neg h]
    by_cases e : a = c
    · rw [if_pos e]; congr 1; rw [decide_eq_decide]; omega
    · rw [if_neg e, decide_eq_false (by omega)]
/-! #### the root by halving -/
theorem spec_root_loop (h l : Int) (r : Int) (l0 : 0 ≤ l) (l1 : l < 18446744073709551616) (hr : ∀ n : Int, 0 ≤ n → n ≤ 4611686018427387904 → (n * n ≤ h * 18446744073709551616 + l ↔ n ≤ r)) (d : Nat) : ∀ lo hi : Int, 0 ≤ lo → lo ≤ r → lo ≤ hi → hi ≤ 4611686018427387904 → (hi - lo).toNat ≤ d →
    Ev (fun k => spec_l1Root.l0 k lo hi h l) (if hi ≤ r then hi else r) := by
  induction d with
  | zero =>
    intro lo hi h0 h1 h2 h3 hd
    have e : lo = hi := by omega
    refine ev_succ ?_
    simp only [spec_l1Root.l0, if_neg (show ¬ lo < hi by omega)]
    rw [if_pos (by omega), e]
    exact Ev.now _
  | succ d ih =>
    intro lo hi h0 h1 h2 h3 hd
    by_cases hlt : lo < hi
    · have em : IntKind.u64.wrap (lo + (IntKind.u64.wrap (Int.tdiv (IntKind.u64.wrap ((IntKind.u64.wrap (hi - lo)) + 1)) 2))) = lo + (hi - lo + 1) / 2 := by
        rw [wu_in (n := hi - lo) (by omega) (by omega), wu_in (n := hi - lo + 1) (by omega) (by omega), tdiv_pos (by omega), wu_in (n := (hi - lo + 1) / 2) (by omega) (by omega), wu_in (by omega) (by omega)]
      have m0 : lo < lo + (hi - lo + 1) / 2 := by omega
      have m1 : lo + (hi - lo + 1) / 2 ≤ hi := by omega
      refine ev_succ ?_
      simp only [spec_l1Root.l0, if_pos hlt, em]
      generalize lo + (hi - lo + 1) / 2 = m at *
      have hm := hr m (by omega) (by omega)
      simp only [spec_times (a := m) (b := m) (by omega) (by omega) (by omega) (by omega), Option.bind_some, spec_less (a := h) (b := l) (c := m * m / 18446744073709551616) (d := m * m % 18446744073709551616) l0 l1 (by omega) (by omega)]
      have eq : m * m / 18446744073709551616 * 18446744073709551616 + m * m % 18446744073709551616 = m * m := by omega
      rw [eq]
      by_cases c : h * 18446744073709551616 + l < m * m
      · simp only [decide_eq_true c, if_true, wu_in (n := m - 1) (by omega) (by omega)]
        have hx : ¬ m ≤ r := fun hh => by have := hm.2 hh; omega
        refine ev_val (ih lo (m - 1) h0 h1 (by omega) (by omega) (by omega)) ?_
        split <;> split <;> omega
      · simp only [decide_eq_false c, Bool.false_eq_true, if_false]
        have hx : m ≤ r := hm.1 (by omega)
        exact ih m hi (by omega) hx m1 h3 (by omega)
    · have e : lo = hi := by omega
      refine ev_succ ?_
      simp only [spec_l1Root.l0, if_neg hlt]
      rw [if_pos (by omega), e]
      exact Ev.now _
/-- The reference's root of a wide number, as far as 'most' goes. -/
theorem spec_root {h l most : Int} (l0 : 0 ≤ l) (l1 : l < 18446744073709551616) (h0 : 0 ≤ h) (m0 : 0 ≤ most) (m1 : most ≤ 4611686018427387904) :
    Ev (fun k => spec_l1Root.f k h l most) (if most ≤ (isq (h * 18446744073709551616 + l).toNat : Int) then most else (isq (h * 18446744073709551616 + l).toNat : Int)) := by
  unfold spec_l1Root.f
  refine spec_root_loop h l _ l0 l1 (fun n n0 n1 => ?_) most.toNat 0 most (by omega) (by omega) m0 m1 (by omega)
  obtain ⟨m, rfl⟩ := Int.eq_ofNat_of_zero_le n0
  have := isq_iff (h * 18446744073709551616 + l).toNat m
  have e : ((m : Int) * m) = ((m * m : Nat) : Int) := by rw [Int.natCast_mul]
  rw [e]
  omega
/-! #### a wide number divided, by halving; to the nearest -/
theorem spec_over_loop (h l b : Int) (hb : 0 < b) (hb1 : b < 18446744073709551616) (l0 : 0 ≤ l) (l1 : l < 18446744073709551616) (d : Nat) : ∀ lo hi : Int, 0 ≤ lo → lo ≤ (h * 18446744073709551616 + l) / b → lo ≤ hi → hi ≤ 4611686018427387904 → (hi - lo).toNat ≤ d →
    Ev (fun k => spec_l1Over.l0 k b lo hi h l) (if hi ≤ (h * 18446744073709551616 + l) / b then hi else (h * 18446744073709551616 + l) / b) := by
  induction d with
  | zero =>
    intro lo hi h0 h1 h2 h3 hd
    have e : lo = hi := by omega
    refine ev_succ ?_
    simp only [spec_l1Over.l0, if_neg (show ¬ lo < hi by omega)]
    rw [if_pos (by omega), e]
    exact Ev.now _
  | succ d ih =>
    intro lo hi h0 h1 h2 h3 hd
    by_cases hlt : lo < hi
    · have em : IntKind.u64.wrap (lo + (IntKind.u64.wrap (Int.tdiv (IntKind.u64.wrap ((IntKind.u64.wrap (hi - lo)) + 1)) 2))) = lo + (hi - lo + 1) / 2 := by
        rw [wu_in (n := hi - lo) (by omega) (by omega), wu_in (n := hi - lo + 1) (by omega) (by omega), tdiv_pos (by omega), wu_in (n := (hi - lo + 1) / 2) (by omega) (by omega), wu_in (by omega) (by omega)]
      have m0 : lo < lo + (hi - lo + 1) / 2 := by omega
      have m1 : lo + (hi - lo + 1) / 2 ≤ hi := by omega
      refine ev_succ ?_
      simp only [spec_l1Over.l0, if_pos hlt, em]
      generalize lo + (hi - lo + 1) / 2 = m at *
      have hm : m ≤ (h * 18446744073709551616 + l) / b ↔ m * b ≤ h * 18446744073709551616 + l := Int.le_ediv_iff_mul_le hb
      generalize (h * 18446744073709551616 + l) / b = r at *
      simp only [spec_times (a := m) (b := b) (by omega) (by omega) (by omega) hb1, Option.bind_some, spec_less (a := h) (b := l) (c := m * b / 18446744073709551616) (d := m * b % 18446744073709551616) l0 l1 (by omega) (by omega)]
      have eq : m * b / 18446744073709551616 * 18446744073709551616 + m * b % 18446744073709551616 = m * b := by omega
      rw [eq]
      by_cases c : h * 18446744073709551616 + l < m * b
      · simp only [decide_eq_true c, if_true, wu_in (n := m - 1) (by omega) (by omega)]
        have hx : ¬ m ≤ r := fun hh => by have := hm.1 hh; omega
        refine ev_val (ih lo (m - 1) h0 h1 (by omega) (by omega) (by omega)) ?_
        split <;> split <;> omega
      · simp only [decide_eq_false c, Bool.false_eq_true, if_false]
        have hx : m ≤ r := hm.2 (by omega)
        exact ih m hi (by omega) hx m1 h3 (by omega)
    · have e : lo = hi := by omega
      refine ev_succ ?_
      simp only [spec_l1Over.l0, if_neg hlt]
      rw [if_pos (by omega), e]
      exact Ev.now _
theorem spec_over {h l b most : Int} (hb : 0 < b) (hb1 : b < 18446744073709551616) (h0 : 0 ≤ h) (l0 : 0 ≤ l) (l1 : l < 18446744073709551616) (m0 : 0 ≤ most) (m1 : most ≤ 4611686018427387904) :
    Ev (fun k => spec_l1Over.f k h l b most) (if most ≤ (h * 18446744073709551616 + l) / b then most else (h * 18446744073709551616 + l) / b) := by
  unfold spec_l1Over.f
  exact spec_over_loop h l b hb hb1 l0 l1 most.toNat 0 most (by omega) (Int.ediv_nonneg (by omega) (by omega)) m0 m1 (by omega)
theorem ediv_of {x d q r : Int} (hd : 0 < d) (h : x = d * q + r) (r0 : 0 ≤ r) (r1 : r < d) : x / d = q := by
  rw [h, Int.add_comm, Int.add_mul_ediv_left _ _ (by omega), Int.ediv_eq_zero_of_lt r0 r1, Int.zero_add]
/-! #### a wide number by a whole one, as math/bits does it -/
def Len (x : Int) (t : Nat) : Prop := 1 ≤ t ∧ (2 : Int) ^ (t - 1) ≤ x ∧ x < (2 : Int) ^ t
set_option maxRecDepth 100000 in
theorem len_fin : ∀ i : Fin 256, i.val = 0 ∨ (bt (⟨#[0, 1, 2, 2, 3, 3, 3, 3, 4, 4, 4, 4, 4, 4, 4, 4, 5, 5, 5, 5, 5, 5, 5, 5, 5, 5, 5, 5, 5, 5, 5, 5, 6, 6, 6, 6, 6, 6, 6, 6, 6, 6, 6, 6, 6, 6, 6, 6, 6, 6, 6, 6, 6, 6, 6, 6, 6, 6, 6, 6, 6, 6, 6, 6, 7, 7, 7, 7, 7, 7, 7, 7, 7, 7, 7, 7, 7, 7, 7, 7, 7, 7, 7, 7, 7, 7, 7, 7, 7, 7, 7, 7, 7, 7, 7, 7, 7, 7, 7, 7, 7, 7, 7, 7, 7, 7, 7, 7, 7, 7, 7, 7, 7, 7, 7, 7, 7, 7, 7, 7, 7, 7, 7, 7, 7, 7, 7, 7, 8, 8, 8, 8, 8, 8, 8, 8, 8, 8, 8, 8, 8, 8, 8, 8, 8, 8, 8, 8, 8, 8, 8, 8, 8, 8, 8, 8, 8, 8, 8, 8, 8, 8, 8, 8, 8, 8, 8, 8, 8, 8, 8, 8, 8, 8, 8, 8, 8, 8, 8, 8, 8, 8, 8, 8, 8, 8, 8, 8, 8, 8, 8, 8, 8, 8, 8, 8, 8, 8, 8, 8, 8, 8, 8, 8, 8, 8, 8, 8, 8, 8, 8, 8, 8, 8, 8, 8, 8, 8, 8, 8, 8, 8, 8, 8, 8, 8, 8, 8, 8, 8, 8, 8, 8, 8, 8, 8, 8, 8, 8, 8, 8, 8, 8, 8, 8, 8, 8, 8, 8, 8, 8, 8, 8, 8, 8, 8]⟩ : ByteArray) (i.val : Int) = ((bt (⟨#[0, 1, 2, 2, 3, 3, 3, 3, 4, 4, 4, 4, 4, 4, 4, 4, 5, 5, 5, 5, 5, 5, 5, 5, 5, 5, 5, 5, 5, 5, 5, 5, 6, 6, 6, 6, 6, 6, 6, 6, 6, 6, 6, 6, 6, 6, 6, 6, 6, 6, 6, 6, 6, 6, 6, 6, 6, 6, 6, 6, 6, 6, 6, 6, 7, 7, 7, 7, 7, 7, 7, 7, 7, 7, 7, 7, 7, 7, 7, 7, 7, 7, 7, 7, 7, 7, 7, 7, 7, 7, 7, 7, 7, 7, 7, 7, 7, 7, 7, 7, 7, 7, 7, 7, 7, 7, 7, 7, 7, 7, 7, 7, 7, 7, 7, 7, 7, 7, 7, 7, 7, 7, 7, 7, 7, 7, 7, 7, 8, 8, 8, 8, 8, 8, 8, 8, 8, 8, 8, 8, 8, 8, 8, 8, 8, 8, 8, 8, 8, 8, 8, 8, 8, 8, 8, 8, 8, 8, 8, 8, 8, 8, 8, 8, 8, 8, 8, 8, 8, 8, 8, 8, 8, 8, 8, 8, 8, 8, 8, 8, 8, 8, 8, 8, 8, 8, 8, 8, 8, 8, 8, 8, 8, 8, 8, 8, 8, 8, 8, 8, 8, 8, 8, 8, 8, 8, 8, 8, 8, 8, 8, 8, 8, 8, 8, 8, 8, 8, 8, 8, 8, 8, 8, 8, 8, 8, 8, 8, 8, 8, 8, 8, 8, 8, 8, 8, 8, 8, 8, 8, 8, 8, 8, 8, 8, 8, 8, 8, 8, 8, 8, 8, 8, 8, 8, 8]⟩ : ByteArray) (i.val : Int)).toNat : Int) ∧ 1 ≤ (bt (⟨#[0, 1, 2, 2, 3, 3, 3, 3, 4, 4, 4, 4, 4, 4, 4, 4, 5, 5, 5, 5, 5, 5, 5, 5, 5, 5, 5, 5, 5, 5, 5, 5, 6, 6, 6, 6, 6, 6, 6, 6, 6, 6, 6, 6, 6, 6, 6, 6, 6, 6, 6, 6, 6, 6, 6, 6, 6, 6, 6, 6, 6, 6, 6, 6, 7, 7, 7, 7, 7, 7, 7, 7, 7, 7, 7, 7, 7, 7, 7, 7, 7, 7, 7, 7, 7, 7, 7, 7, 7, 7, 7, 7, 7, 7, 7, 7, 7, 7, 7, 7, 7, 7, 7, 7, 7, 7, 7, 7, 7, 7, 7, 7, 7, 7, 7, 7, 7, 7, 7, 7, 7, 7, 7, 7, 7, 7, 7, 7, 8, 8, 8, 8, 8, 8, 8, 8, 8, 8, 8, 8, 8, 8, 8, 8, 8, 8, 8, 8, 8, 8, 8, 8, 8, 8, 8, 8, 8, 8, 8, 8, 8, 8, 8, 8, 8, 8, 8, 8, 8, 8, 8, 8, 8, 8, 8, 8, 8, 8, 8, 8, 8, 8, 8, 8, 8, 8, 8, 8, 8, 8, 8, 8, 8, 8, 8, 8, 8, 8, 8, 8, 8, 8, 8, 8, 8, 8, 8, 8, 8, 8, 8, 8, 8, 8, 8, 8, 8, 8, 8, 8, 8, 8, 8, 8, 8, 8, 8, 8, 8, 8, 8, 8, 8, 8, 8, 8, 8, 8, 8, 8, 8, 8, 8, 8, 8, 8, 8, 8, 8, 8, 8, 8, 8, 8, 8, 8]⟩ : ByteArray) (i.val : Int)).toNat ∧ (bt (⟨#[0, 1, 2, 2, 3, 3, 3, 3, 4, 4, 4, 4, 4, 4, 4, 4, 5, 5, 5, 5, 5, 5, 5, 5, 5, 5, 5, 5, 5, 5, 5, 5, 6, 6, 6, 6, 6, 6, 6, 6, 6, 6, 6, 6, 6, 6, 6, 6, 6, 6, 6, 6, 6, 6, 6, 6, 6, 6, 6, 6, 6, 6, 6, 6, 7, 7, 7, 7, 7, 7, 7, 7, 7, 7, 7, 7, 7, 7, 7, 7, 7, 7, 7, 7, 7, 7, 7, 7, 7, 7, 7, 7, 7, 7, 7, 7, 7, 7, 7, 7, 7, 7, 7, 7, 7, 7, 7, 7, 7, 7, 7, 7, 7, 7, 7, 7, 7, 7, 7, 7, 7, 7, 7, 7, 7, 7, 7, 7, 8, 8, 8, 8, 8, 8, 8, 8, 8, 8, 8, 8, 8, 8, 8, 8, 8, 8, 8, 8, 8, 8, 8, 8, 8, 8, 8, 8, 8, 8, 8, 8, 8, 8, 8, 8, 8, 8, 8, 8, 8, 8, 8, 8, 8, 8, 8, 8, 8, 8, 8, 8, 8, 8, 8, 8, 8, 8, 8, 8, 8, 8, 8, 8, 8, 8, 8, 8, 8, 8, 8, 8, 8, 8, 8, 8, 8, 8, 8, 8, 8, 8, 8, 8, 8, 8, 8, 8, 8, 8, 8, 8, 8, 8, 8, 8, 8, 8, 8, 8, 8, 8, 8, 8, 8, 8, 8, 8, 8, 8, 8, 8, 8, 8, 8, 8, 8, 8, 8, 8, 8, 8, 8, 8, 8, 8, 8, 8]⟩ : ByteArray) (i.val : Int)).toNat ≤ 8 ∧ 2 ^ ((bt (⟨#[0, 1, 2, 2, 3, 3, 3, 3, 4, 4, 4, 4, 4, 4, 4, 4, 5, 5, 5, 5, 5, 5, 5, 5, 5, 5, 5, 5, 5, 5, 5, 5, 6, 6, 6, 6, 6, 6, 6, 6, 6, 6, 6, 6, 6, 6, 6, 6, 6, 6, 6, 6, 6, 6, 6, 6, 6, 6, 6, 6, 6, 6, 6, 6, 7, 7, 7, 7, 7, 7, 7, 7, 7, 7, 7, 7, 7, 7, 7, 7, 7, 7, 7, 7, 7, 7, 7, 7, 7, 7, 7, 7, 7, 7, 7, 7, 7, 7, 7, 7, 7, 7, 7, 7, 7, 7, 7, 7, 7, 7, 7, 7, 7, 7, 7, 7, 7, 7, 7, 7, 7, 7, 7, 7, 7, 7, 7, 7, 8, 8, 8, 8, 8, 8, 8, 8, 8, 8, 8, 8, 8, 8, 8, 8, 8, 8, 8, 8, 8, 8, 8, 8, 8, 8, 8, 8, 8, 8, 8, 8, 8, 8, 8, 8, 8, 8, 8, 8, 8, 8, 8, 8, 8, 8, 8, 8, 8, 8, 8, 8, 8, 8, 8, 8, 8, 8, 8, 8, 8, 8, 8, 8, 8, 8, 8, 8, 8, 8, 8, 8, 8, 8, 8, 8, 8, 8, 8, 8, 8, 8, 8, 8, 8, 8, 8, 8, 8, 8, 8, 8, 8, 8, 8, 8, 8, 8, 8, 8, 8, 8, 8, 8, 8, 8, 8, 8, 8, 8, 8, 8, 8, 8, 8, 8, 8, 8, 8, 8, 8, 8, 8, 8, 8, 8, 8, 8]⟩ : ByteArray) (i.val : Int)).toNat - 1) ≤ i.val ∧ i.val < 2 ^ (bt (⟨#[0, 1, 2, 2, 3, 3, 3, 3, 4, 4, 4, 4, 4, 4, 4, 4, 5, 5, 5, 5, 5, 5, 5, 5, 5, 5, 5, 5, 5, 5, 5, 5, 6, 6, 6, 6, 6, 6, 6, 6, 6, 6, 6, 6, 6, 6, 6, 6, 6, 6, 6, 6, 6, 6, 6, 6, 6, 6, 6, 6, 6, 6, 6, 6, 7, 7, 7, 7, 7, 7, 7, 7, 7, 7, 7, 7, 7, 7, 7, 7, 7, 7, 7, 7, 7, 7, 7, 7, 7, 7, 7, 7, 7, 7, 7, 7, 7, 7, 7, 7, 7, 7, 7, 7, 7, 7, 7, 7, 7, 7, 7, 7, 7, 7, 7, 7, 7, 7, 7, 7, 7, 7, 7, 7, 7, 7, 7, 7, 8, 8, 8, 8, 8, 8, 8, 8, 8, 8, 8, 8, 8, 8, 8, 8, 8, 8, 8, 8, 8, 8, 8, 8, 8, 8, 8, 8, 8, 8, 8, 8, 8, 8, 8, 8, 8, 8, 8, 8, 8, 8, 8, 8, 8, 8, 8, 8, 8, 8, 8, 8, 8, 8, 8, 8, 8, 8, 8, 8, 8, 8, 8, 8, 8, 8, 8, 8, 8, 8, 8, 8, 8, 8, 8, 8, 8, 8, 8, 8, 8, 8, 8, 8, 8, 8, 8, 8, 8, 8, 8, 8, 8, 8, 8, 8, 8, 8, 8, 8, 8, 8, 8, 8, 8, 8, 8, 8, 8, 8, 8, 8, 8, 8, 8, 8, 8, 8, 8, 8, 8, 8, 8, 8, 8, 8, 8, 8]⟩ : ByteArray) (i.val : Int)).toNat) := by decide +kernel
set_option maxRecDepth 100000 in
theorem len_tab {i : Int} (h0 : 1 ≤ i) (h1 : i < 256) : ∃ t : Nat, bt (⟨#[0, 1, 2, 2, 3, 3, 3, 3, 4, 4, 4, 4, 4, 4, 4, 4, 5, 5, 5, 5, 5, 5, 5, 5, 5, 5, 5, 5, 5, 5, 5, 5, 6, 6, 6, 6, 6, 6, 6, 6, 6, 6, 6, 6, 6, 6, 6, 6, 6, 6, 6, 6, 6, 6, 6, 6, 6, 6, 6, 6, 6, 6, 6, 6, 7, 7, 7, 7, 7, 7, 7, 7, 7, 7, 7, 7, 7, 7, 7, 7, 7, 7, 7, 7, 7, 7, 7, 7, 7, 7, 7, 7, 7, 7, 7, 7, 7, 7, 7, 7, 7, 7, 7, 7, 7, 7, 7, 7, 7, 7, 7, 7, 7, 7, 7, 7, 7, 7, 7, 7, 7, 7, 7, 7, 7, 7, 7, 7, 8, 8, 8, 8, 8, 8, 8, 8, 8, 8, 8, 8, 8, 8, 8, 8, 8, 8, 8, 8, 8, 8, 8, 8, 8, 8, 8, 8, 8, 8, 8, 8, 8, 8, 8, 8, 8, 8, 8, 8, 8, 8, 8, 8, 8, 8, 8, 8, 8, 8, 8, 8, 8, 8, 8, 8, 8, 8, 8, 8, 8, 8, 8, 8, 8, 8, 8, 8, 8, 8, 8, 8, 8, 8, 8, 8, 8, 8, 8, 8, 8, 8, 8, 8, 8, 8, 8, 8, 8, 8, 8, 8, 8, 8, 8, 8, 8, 8, 8, 8, 8, 8, 8, 8, 8, 8, 8, 8, 8, 8, 8, 8, 8, 8, 8, 8, 8, 8, 8, 8, 8, 8, 8, 8, 8, 8, 8, 8]⟩ : ByteArray) i = (t : Int) ∧ t ≤ 8 ∧ Len i t := by
  obtain ⟨n, rfl⟩ := Int.eq_ofNat_of_zero_le (show 0 ≤ i by omega)
  rcases len_fin ⟨n, by omega⟩ with h | ⟨e, a, b, c, d⟩
  · exact absurd h (by dsimp only; omega)
  · refine ⟨_, e, b, a, ?_, ?_⟩
    · have : ((2 ^ ((bt (⟨#[0, 1, 2, 2, 3, 3, 3, 3, 4, 4, 4, 4, 4, 4, 4, 4, 5, 5, 5, 5, 5, 5, 5, 5, 5, 5, 5, 5, 5, 5, 5, 5, 6, 6, 6, 6, 6, 6, 6, 6, 6, 6, 6, 6, 6, 6, 6, 6, 6, 6, 6, 6, 6, 6, 6, 6, 6, 6, 6, 6, 6, 6, 6, 6, 7, 7, 7, 7, 7, 7, 7, 7, 7, 7, 7, 7, 7, 7, 7, 7, 7, 7, 7, 7, 7, 7, 7, 7, 7, 7, 7, 7, 7, 7, 7, 7, 7, 7, 7, 7, 7, 7, 7, 7, 7, 7, 7, 7, 7, 7, 7, 7, 7, 7, 7, 7, 7, 7, 7, 7, 7, 7, 7, 7, 7, 7, 7, 7, 8, 8, 8, 8, 8, 8, 8, 8, 8, 8, 8, 8, 8, 8, 8, 8, 8, 8, 8, 8, 8, 8, 8, 8, 8, 8, 8, 8, 8, 8, 8, 8, 8, 8, 8, 8, 8, 8, 8, 8, 8, 8, 8, 8, 8, 8, 8, 8, 8, 8, 8, 8, 8, 8, 8, 8, 8, 8, 8, 8, 8, 8, 8, 8, 8, 8, 8, 8, 8, 8, 8, 8, 8, 8, 8, 8, 8, 8, 8, 8, 8, 8, 8, 8, 8, 8, 8, 8, 8, 8, 8, 8, 8, 8, 8, 8, 8, 8, 8, 8, 8, 8, 8, 8, 8, 8, 8, 8, 8, 8, 8, 8, 8, 8, 8, 8, 8, 8, 8, 8, 8, 8, 8, 8, 8, 8, 8, 8]⟩ : ByteArray) (n : Int)).toNat - 1) : Nat) : Int) ≤ (n : Int) := by exact_mod_cast c
      simpa using this
    · have : (n : Int) < ((2 ^ (bt (⟨#[0, 1, 2, 2, 3, 3, 3, 3, 4, 4, 4, 4, 4, 4, 4, 4, 5, 5, 5, 5, 5, 5, 5, 5, 5, 5, 5, 5, 5, 5, 5, 5, 6, 6, 6, 6, 6, 6, 6, 6, 6, 6, 6, 6, 6, 6, 6, 6, 6, 6, 6, 6, 6, 6, 6, 6, 6, 6, 6, 6, 6, 6, 6, 6, 7, 7, 7, 7, 7, 7, 7, 7, 7, 7, 7, 7, 7, 7, 7, 7, 7, 7, 7, 7, 7, 7, 7, 7, 7, 7, 7, 7, 7, 7, 7, 7, 7, 7, 7, 7, 7, 7, 7, 7, 7, 7, 7, 7, 7, 7, 7, 7, 7, 7, 7, 7, 7, 7, 7, 7, 7, 7, 7, 7, 7, 7, 7, 7, 8, 8, 8, 8, 8, 8, 8, 8, 8, 8, 8, 8, 8, 8, 8, 8, 8, 8, 8, 8, 8, 8, 8, 8, 8, 8, 8, 8, 8, 8, 8, 8, 8, 8, 8, 8, 8, 8, 8, 8, 8, 8, 8, 8, 8, 8, 8, 8, 8, 8, 8, 8, 8, 8, 8, 8, 8, 8, 8, 8, 8, 8, 8, 8, 8, 8, 8, 8, 8, 8, 8, 8, 8, 8, 8, 8, 8, 8, 8, 8, 8, 8, 8, 8, 8, 8, 8, 8, 8, 8, 8, 8, 8, 8, 8, 8, 8, 8, 8, 8, 8, 8, 8, 8, 8, 8, 8, 8, 8, 8, 8, 8, 8, 8, 8, 8, 8, 8, 8, 8, 8, 8, 8, 8, 8, 8, 8, 8]⟩ : ByteArray) (n : Int)).toNat : Nat) : Int) := by exact_mod_cast d
      simpa using this
theorem two_pos (k : Nat) : (0 : Int) < 2 ^ k := Int.pow_pos (by decide)
theorem len_up {x : Int} (k : Nat) {t : Nat} (h : Len (x / 2 ^ k) t) : Len x (k + t) := by
  obtain ⟨h1, h2, h3⟩ := h
  refine ⟨by omega, ?_, ?_⟩
  · rw [show k + t - 1 = (t - 1) + k by omega, Int.pow_add]
    exact (Int.le_ediv_iff_mul_le (two_pos k)).1 h2
  · rw [Nat.add_comm, Int.pow_add]
    exact (Int.ediv_lt_iff_lt_mul (two_pos k)).1 h3
set_option maxRecDepth 100000 in
theorem len_of {y : Int} (h0 : 1 ≤ y) (h1 : y ≤ 1099511627776) : ∃ L : Nat, Ev (fun k => bits_Len64.f k y) (L : Int) ∧ L ≤ 48 ∧ Len y L := by
  by_cases a : y ≥ 4294967296
  · have b : ¬ y / 4294967296 ≥ 65536 := by omega
    by_cases c : y / 4294967296 ≥ 256
    · obtain ⟨t, e, t8, ht⟩ := len_tab (i := y / 4294967296 / 256) (by omega) (by omega)
      refine ⟨32 + (8 + t), ?_, by omega, len_up 32 (len_up 8 ht)⟩
      unfold bits_Len64.f
      simp only [if_pos a]
      refine ev_succ ?_
      simp only [bits_Len64.j0, if_neg b, if_pos c, show y / 4294967296 / 256 % 256 = y / 4294967296 / 256 by omega, if_pos (show 0 ≤ y / 4294967296 / 256 by omega), if_pos (show y / 4294967296 / 256 < 256 by omega), e]
      rw [wrap_small (i := 32 + 8) (by omega) (by omega), wrap_small (i := (t : Int)) (by omega) (by omega), wrap_small (by omega) (by omega), show ((32 + (8 + t) : Nat) : Int) = 32 + 8 + (t : Int) by omega]
      exact Ev.now _
    · obtain ⟨t, e, t8, ht⟩ := len_tab (i := y / 4294967296) (by omega) (by omega)
      refine ⟨32 + t, ?_, by omega, len_up 32 ht⟩
      unfold bits_Len64.f
      simp only [if_pos a]
      refine ev_succ ?_
      simp only [bits_Len64.j0, if_neg b, if_neg c, show y / 4294967296 % 256 = y / 4294967296 by omega, if_pos (show 0 ≤ y / 4294967296 by omega), if_pos (show y / 4294967296 < 256 by omega), e]
      rw [wrap_small (i := (t : Int)) (by omega) (by omega), wrap_small (by omega) (by omega), show ((32 + t : Nat) : Int) = 32 + (t : Int) by omega]
      exact Ev.now _
  · by_cases b : y ≥ 65536
    · by_cases c : y / 65536 ≥ 256
      · obtain ⟨t, e, t8, ht⟩ := len_tab (i := y / 65536 / 256) (by omega) (by omega)
        refine ⟨16 + (8 + t), ?_, by omega, len_up 16 (len_up 8 ht)⟩
        unfold bits_Len64.f
        simp only [if_neg a]
        refine ev_succ ?_
        simp only [bits_Len64.j0, if_pos b, if_pos c, show y / 65536 / 256 % 256 = y / 65536 / 256 by omega, if_pos (show 0 ≤ y / 65536 / 256 by omega), if_pos (show y / 65536 / 256 < 256 by omega), e]
        rw [wrap_small (i := 0 + 16) (by omega) (by omega), wrap_small (i := 0 + 16 + 8) (by omega) (by omega), wrap_small (i := (t : Int)) (by omega) (by omega), wrap_small (by omega) (by omega), show ((16 + (8 + t) : Nat) : Int) = 0 + 16 + 8 + (t : Int) by omega]
        exact Ev.now _
      · obtain ⟨t, e, t8, ht⟩ := len_tab (i := y / 65536) (by omega) (by omega)
        refine ⟨16 + t, ?_, by omega, len_up 16 ht⟩
        unfold bits_Len64.f
        simp only [if_neg a]
        refine ev_succ ?_
        simp only [bits_Len64.j0, if_pos b, if_neg c, show y / 65536 % 256 = y / 65536 by omega, if_pos (show 0 ≤ y / 65536 by omega), if_pos (show y / 65536 < 256 by omega), e]
        rw [wrap_small (i := 0 + 16) (by omega) (by omega), wrap_small (i := (t : Int)) (by omega) (by omega), wrap_small (by omega) (by omega), show ((16 + t : Nat) : Int) = 0 + 16 + (t : Int) by omega]
        exact Ev.now _
    · by_cases c : y ≥ 256
      · obtain ⟨t, e, t8, ht⟩ := len_tab (i := y / 256) (by omega) (by omega)
        refine ⟨8 + t, ?_, by omega, len_up 8 ht⟩
        unfold bits_Len64.f
        simp only [if_neg a]
        refine ev_succ ?_
        simp only [bits_Len64.j0, if_neg b, if_pos c, show y / 256 % 256 = y / 256 by omega, if_pos (show 0 ≤ y / 256 by omega), if_pos (show y / 256 < 256 by omega), e]
        rw [wrap_small (i := 0 + 8) (by omega) (by omega), wrap_small (i := (t : Int)) (by omega) (by omega), wrap_small (by omega) (by omega), show ((8 + t : Nat) : Int) = 0 + 8 + (t : Int) by omega]
        exact Ev.now _
      · obtain ⟨t, e, t8, ht⟩ := len_tab (i := y) (by omega) (by omega)
        refine ⟨t, ?_, by omega, ht⟩
        unfold bits_Len64.f
        simp only [if_neg a]
        refine ev_succ ?_
        simp only [bits_Len64.j0, if_neg b, if_neg c, show y % 256 = y by omega, if_pos (show 0 ≤ y by omega), if_pos (show y < 256 by omega), e]
        rw [wrap_small (i := (t : Int)) (by omega) (by omega), wrap_small (by omega) (by omega), Int.zero_add]
        exact Ev.now _
theorem zeros_of {y : Int} (h0 : 1 ≤ y) (h1 : y ≤ 1099511627776) : ∃ s : Nat, Ev (fun k => bits_LeadingZeros64.f k y) (s : Int) ∧ 1 ≤ s ∧ s ≤ 63 ∧ 9223372036854775808 ≤ y * 2 ^ s ∧ y * 2 ^ s < 18446744073709551616 := by
  obtain ⟨L, hL, h48, l1, l2, l3⟩ := len_of h0 h1
  refine ⟨64 - L, ?_, by omega, by omega, ?_, ?_⟩
  · unfold bits_LeadingZeros64.f
    refine Ev.bind hL ?_
    rw [wrap_small (by omega) (by omega), show ((64 - L : Nat) : Int) = 64 - (L : Int) by omega]
    exact Ev.now _
  · have e : (2 : Int) ^ (L - 1) * 2 ^ (64 - L) = 9223372036854775808 := by rw [← Int.pow_add, show L - 1 + (64 - L) = 63 by omega]; rfl
    rw [← e]
    exact Int.mul_le_mul_of_nonneg_right l2 (Int.le_of_lt (two_pos _))
  · have e : (2 : Int) ^ L * 2 ^ (64 - L) = 18446744073709551616 := by rw [← Int.pow_add, show L + (64 - L) = 64 by omega]; rfl
    rw [← e]
    exact Int.mul_lt_mul_of_pos_right l3 (two_pos _)
/-- One digit on its way: q times the divisor's head and the rest r are U; q is the digit or more. -/
structure Dig (y a b U c Q q r : Int) : Prop where
  hy : y = a * 4294967296 + b
  b0 : 0 ≤ b
  b1 : b < 4294967296
  a0 : 2147483648 ≤ a
  a1 : a < 4294967296
  c0 : 0 ≤ c
  c1 : c < 4294967296
  Q0 : 0 ≤ Q
  Q1 : Q < 4294967296
  lo : Q * y ≤ U * 4294967296 + c
  hi : U * 4294967296 + c < (Q + 1) * y
  qr : q * a + r = U
  r0 : 0 ≤ r
  r1 : r < 4294967296
  qQ : Q ≤ q
  qB : q ≤ 4294967297
theorem Dig.val {y a b U c Q q r : Int} (h : Dig y a b U c Q q r) : q * y = (U - r) * 4294967296 + q * b := by
  rw [h.hy, Int.mul_add, ← Int.mul_assoc, ← h.qr]
  congr 2; omega
theorem Dig.small {y a b U c Q q r : Int} (h : Dig y a b U c Q q r) : 0 ≤ q * b ∧ q * b < 18446744073709551616 := by
  have h0 : 0 ≤ q := Int.le_trans h.Q0 h.qQ
  refine ⟨Int.mul_nonneg h0 h.b0, ?_⟩
  have h1 : q * b ≤ 4294967297 * 4294967295 := Int.mul_le_mul h.qB (by have := h.b1; omega) h.b0 (by decide)
  omega
theorem Dig.more {y a b U c Q q r : Int} (h : Dig y a b U c Q q r) (hc : q ≥ 4294967296 ∨ q * b > 4294967296 * r + c) : Q < q := by
  rcases hc with hc | hc
  · have := h.Q1; omega
  · have hv := h.val
    refine Int.not_le.1 (fun hle => ?_)
    have hyp : 0 ≤ y := by have := h.hy; have := h.a0; have := h.b0; omega
    have h1 : q * y ≤ Q * y := Int.mul_le_mul_of_nonneg_right hle hyp
    have h2 := h.lo
    omega
theorem Dig.same {y a b U c Q q r : Int} (h : Dig y a b U c Q q r) (hc : ¬ q * b > 4294967296 * r + c) : q = Q := by
  have hv := h.val
  have hyp : 0 ≤ y := by have := h.hy; have := h.a0; have := h.b0; omega
  have hle : q ≤ Q := by
    refine Int.not_lt.1 (fun hlt => ?_)
    have h1 : (Q + 1) * y ≤ q * y := Int.mul_le_mul_of_nonneg_right (by omega) hyp
    have h2 := h.hi
    omega
  have := h.qQ
  omega
theorem Dig.last {y a b U c Q q r : Int} (h : Dig y a b U c Q q r) (hm : Q < q) (hr : r + a ≥ 4294967296) : q - 1 = Q := by
  have hv := h.val
  have hyp : 0 ≤ y := by have := h.hy; have := h.a0; have := h.b0; omega
  have hq := h.Q0
  have e1 : (q - 1) * y = q * y - y := by rw [Int.sub_mul, Int.one_mul]
  have e2 : (q - 1) * b = q * b - b := by rw [Int.sub_mul, Int.one_mul]
  have hb := h.b1
  have h3 : (q - 1) * b ≤ 4294967296 * 4294967295 := Int.mul_le_mul (by have := h.qB; omega) (by omega) h.b0 (by decide)
  have hyy := h.hy
  have hc0 := h.c0
  have hle : q - 1 ≤ Q := by
    refine Int.not_lt.1 (fun hlt => ?_)
    have h1 : (Q + 1) * y ≤ (q - 1) * y := Int.mul_le_mul_of_nonneg_right (by omega) hyp
    have h2 := h.hi
    omega
  omega
theorem Dig.next {y a b U c Q q r : Int} (h : Dig y a b U c Q q r) (hm : Q < q) (hr : ¬ r + a ≥ 4294967296) : Dig y a b U c Q (q - 1) (r + a) := by
  have e1 : (q - 1) * a = q * a - a := by rw [Int.sub_mul, Int.one_mul]
  have hqr := h.qr
  exact { h with qr := by omega, r0 := by have := h.r0; have := h.a0; omega, r1 := by omega, qQ := by omega, qB := by have := h.qB; omega }
theorem Dig.start {y a b U c : Int} (hy : y = a * 4294967296 + b) (b0 : 0 ≤ b) (b1 : b < 4294967296) (a0 : 2147483648 ≤ a) (a1 : a < 4294967296) (c0 : 0 ≤ c) (c1 : c < 4294967296) (U0 : 0 ≤ U) (U1 : U < y) :
    Dig y a b U c ((U * 4294967296 + c) / y) (U / a) (U % a) := by
  have hyp : 0 < y := by omega
  have ha : 0 < a := by omega
  have q1 := Int.emod_nonneg U (show a ≠ 0 by omega)
  have q2 := Int.emod_lt_of_pos U ha
  have lo := Int.ediv_mul_le (U * 4294967296 + c) (show y ≠ 0 by omega)
  have hi := Int.lt_ediv_add_one_mul_self (U * 4294967296 + c) hyp
  have Q0 : 0 ≤ (U * 4294967296 + c) / y := Int.ediv_nonneg (by omega) (by omega)
  have Q1 : (U * 4294967296 + c) / y < 4294967296 := by
    rw [Int.ediv_lt_iff_lt_mul hyp]
    omega
  have e := Int.mul_ediv_add_emod U a
  refine ⟨hy, b0, b1, a0, a1, c0, c1, Q0, Q1, lo, hi, by rw [Int.mul_comm]; exact e, q1, by omega, ?_, ?_⟩
  · rw [Int.le_ediv_iff_mul_le ha]
    generalize (U * 4294967296 + c) / y = Q at *
    rw [hy, Int.mul_add, ← Int.mul_assoc] at lo
    have h1 : 0 ≤ Q * b := Int.mul_nonneg Q0 b0
    omega
  · have : U / a < 4294967298 := by
      rw [Int.ediv_lt_iff_lt_mul ha]
      omega
    omega
theorem div_l0 {y s a b U c u0 Q : Int} {res : Int × Int} (h : Ev (fun k => bits_Div64.j4 k y s a b U c u0 Q) res) (d : Nat) : ∀ q r : Int, (q - Q).toNat = d → Dig y a b U c Q q r → Ev (fun k => bits_Div64.l0 k y s a b U c u0 q r) res := by
  induction d with
  | zero =>
    intro q r hd hD
    have hq := hD.qQ
    obtain rfl : q = Q := by omega
    refine ev_succ ?_
    have hm : ¬ (q ≥ 4294967296 ∨ q * b > 4294967296 * r + c) := fun hc => by have := hD.more hc; omega
    have h1 : ¬ q ≥ 4294967296 := fun h => hm (.inl h)
    have h2 : ¬ q * b > 4294967296 * r + c := fun h => hm (.inr h)
    have h3 := hD.small
    have r0 := hD.r0; have r1 := hD.r1; have c0 := hD.c0; have c1 := hD.c1
    simp only [bits_Div64.l0, if_neg h1, wu_in h3.1 h3.2, wu_in (n := 4294967296 * r) (by omega) (by omega), wu_in (n := 4294967296 * r + c) (by omega) (by omega), decide_eq_false h2]
    refine ev_succ ?_
    simp only [bits_Div64.j3, Bool.false_eq_true, if_false]
    exact h
  | succ d ih =>
    intro q r hd hD
    have hq := hD.qQ
    have hlt : Q < q := by omega
    have h3 := hD.small
    have r0 := hD.r0; have r1 := hD.r1; have c0 := hD.c0; have c1 := hD.c1; have a0 := hD.a0; have a1 := hD.a1; have Q0 := hD.Q0; have qB := hD.qB
    have key : Ev (fun k => bits_Div64.j3 k y s a b U c u0 q r true) res := by
      refine ev_succ ?_
      simp only [bits_Div64.j3, if_true, wu_in (n := r + a) (by omega) (by omega), wu_in (n := q - 1) (by omega) (by omega)]
      by_cases hr : r + a ≥ 4294967296
      · simp only [if_pos hr, hD.last hlt hr]
        exact h
      · simp only [if_neg hr]
        exact ih (q - 1) (r + a) (by omega) (hD.next hlt hr)
    refine ev_succ ?_
    by_cases h1 : q ≥ 4294967296
    · simp only [bits_Div64.l0, if_pos h1]
      exact key
    · have h2 : q * b > 4294967296 * r + c := by
        refine Classical.byContradiction fun hn => ?_
        have := hD.same hn
        omega
      simp only [bits_Div64.l0, if_neg h1, wu_in h3.1 h3.2, wu_in (n := 4294967296 * r) (by omega) (by omega), wu_in (n := 4294967296 * r + c) (by omega) (by omega), decide_eq_true h2]
      exact key
theorem div_l1 {y s a b c u1 U Q : Int} (s0 : 0 ≤ s) (u10 : 0 ≤ u1) (u11 : u1 < 4294967296) (d : Nat) : ∀ q r : Int, (q - Q).toNat = d → Dig y a b U c Q q r → ∃ z, Ev (fun k => bits_Div64.l1 k y s a b c u1 r U q) (u1 * 4294967296 + Q, z) := by
  induction d with
  | zero =>
    intro q r hd hD
    have hq := hD.qQ
    obtain rfl : q = Q := by omega
    have hm : ¬ (q ≥ 4294967296 ∨ q * b > 4294967296 * r + c) := fun hc => by have := hD.more hc; omega
    have h1 : ¬ q ≥ 4294967296 := fun h => hm (.inl h)
    have h2 : ¬ q * b > 4294967296 * r + c := fun h => hm (.inr h)
    have h3 := hD.small
    have r0 := hD.r0; have r1 := hD.r1; have c0 := hD.c0; have c1 := hD.c1; have Q0 := hD.Q0
    refine ⟨shr .u64 (IntKind.u64.wrap (IntKind.u64.wrap (IntKind.u64.wrap (U * 4294967296) + c) - IntKind.u64.wrap (q * y))) s, ev_succ ?_⟩
    simp only [bits_Div64.l1, if_neg h1, wu_in h3.1 h3.2, wu_in (n := 4294967296 * r) (by omega) (by omega), wu_in (n := 4294967296 * r + c) (by omega) (by omega), decide_eq_false h2]
    refine ev_succ ?_
    simp only [bits_Div64.j6, Bool.false_eq_true, if_false, if_pos s0, wu_in (n := u1 * 4294967296) (by omega) (by omega), wu_in (n := u1 * 4294967296 + q) (by omega) (by omega)]
    exact Ev.now _
  | succ d ih =>
    intro q r hd hD
    have hq := hD.qQ
    have hlt : Q < q := by omega
    have h3 := hD.small
    have r0 := hD.r0; have r1 := hD.r1; have c0 := hD.c0; have c1 := hD.c1; have a0 := hD.a0; have a1 := hD.a1; have Q0 := hD.Q0; have Q1 := hD.Q1; have qB := hD.qB
    have key : ∃ z, Ev (fun k => bits_Div64.j6 k y s a b c u1 r U q true) (u1 * 4294967296 + Q, z) := by
      by_cases hr : r + a ≥ 4294967296
      · have hl := hD.last hlt hr
        refine ⟨shr .u64 (IntKind.u64.wrap (IntKind.u64.wrap (IntKind.u64.wrap (U * 4294967296) + c) - IntKind.u64.wrap (Q * y))) s, ev_succ ?_⟩
        · simp only [bits_Div64.j6, if_true, wu_in (n := r + a) (by omega) (by omega), wu_in (n := q - 1) (by omega) (by omega), if_pos hr, if_pos s0, hl, wu_in (n := Q) Q0 (by omega), wu_in (n := u1 * 4294967296) (by omega) (by omega), wu_in (n := u1 * 4294967296 + Q) (by omega) (by omega)]
          exact Ev.now _
      · obtain ⟨z, hz⟩ := ih (q - 1) (r + a) (by omega) (hD.next hlt hr)
        refine ⟨z, ev_succ ?_⟩
        simp only [bits_Div64.j6, if_true, wu_in (n := r + a) (by omega) (by omega), wu_in (n := q - 1) (by omega) (by omega), if_neg hr]
        exact hz
    obtain ⟨z, hz⟩ := key
    refine ⟨z, ev_succ ?_⟩
    by_cases h1 : q ≥ 4294967296
    · simp only [bits_Div64.l1, if_pos h1]
      exact hz
    · have h2 : q * b > 4294967296 * r + c := by
        refine Classical.byContradiction fun hn => ?_
        have := hD.same hn
        omega
      simp only [bits_Div64.l1, if_neg h1, wu_in h3.1 h3.2, wu_in (n := 4294967296 * r) (by omega) (by omega), wu_in (n := 4294967296 * r + c) (by omega) (by omega), decide_eq_true h2]
      exact hz
theorem div_rest {y U c Q : Int} (y1 : y < 18446744073709551616) (lo : Q * y ≤ U * 4294967296 + c) (hi : U * 4294967296 + c < (Q + 1) * y) (c0 : 0 ≤ c) (c1 : c < 4294967296) :
    IntKind.u64.wrap (IntKind.u64.wrap (IntKind.u64.wrap (U * 4294967296) + c) - IntKind.u64.wrap (Q * y)) = U * 4294967296 + c - Q * y ∧ 0 ≤ U * 4294967296 + c - Q * y ∧ U * 4294967296 + c - Q * y < y := by
  rw [Int.add_mul, Int.one_mul] at hi
  rw [wu, wu, wu, wu]
  generalize Q * y = P at *
  omega
theorem div_j4 {y s a b U c u0 : Int} (y1 : y < 18446744073709551616) (s0 : 0 ≤ s) (hy : y = a * 4294967296 + b) (b0 : 0 ≤ b) (b1 : b < 4294967296) (a0 : 2147483648 ≤ a) (a1 : a < 4294967296) (c0 : 0 ≤ c) (c1 : c < 4294967296) (v0 : 0 ≤ u0) (v1 : u0 < 4294967296) (U0 : 0 ≤ U) (U1 : U < y) :
    ∃ z, Ev (fun k => bits_Div64.j4 k y s a b U c u0 ((U * 4294967296 + c) / y)) ((U * 4294967296 + c) / y * 4294967296 + ((U * 4294967296 + c - (U * 4294967296 + c) / y * y) * 4294967296 + u0) / y, z) := by
  have hD := Dig.start hy b0 b1 a0 a1 c0 c1 U0 U1
  obtain ⟨e1, R0, R1⟩ := div_rest y1 hD.lo hD.hi c0 c1
  have hD2 := Dig.start hy b0 b1 a0 a1 v0 v1 R0 R1
  have Q0 := hD.Q0
  have Q1 := hD.Q1
  generalize (U * 4294967296 + c) / y = Q at *
  generalize hR : U * 4294967296 + c - Q * y = R at *
  obtain ⟨z, hz⟩ := div_l1 (s := s) (u1 := Q) s0 Q0 Q1 _ _ _ rfl hD2
  refine ⟨z, ev_succ ?_⟩
  have t0 : 0 ≤ R / a := Int.ediv_nonneg R0 (by omega)
  have t1 : R / a < 18446744073709551616 := by have := hD2.qB; omega
  have t2 := Int.mul_ediv_add_emod R a
  have t3 : IntKind.u64.wrap (R / a * a) = R / a * a := wu_in (Int.mul_nonneg t0 (by omega)) (by rw [Int.mul_comm]; have := hD2.r0; omega)
  have t4 : R - R / a * a = R % a := by rw [Int.mul_comm]; omega
  have t5 := hD2.r0
  have t6 := hD2.r1
  simp only [bits_Div64.j4, if_neg (show ¬ a = 0 by omega), e1, tdiv_pos R0, wu_in t0 t1, t3, t4, wu_in t5 (show R % a < 18446744073709551616 by omega)]
  exact hz
theorem div_top {hi lo y p : Int} (hp : 0 < p) (h0 : 0 ≤ hi) (h1 : hi < y) (l0 : 0 ≤ lo) (l1 : lo < 18446744073709551616) : 0 ≤ hi * p + lo * p / 18446744073709551616 ∧ hi * p + lo * p / 18446744073709551616 < y * p ∧ lo * p / 18446744073709551616 < p := by
  have a1 : 0 ≤ hi * p := Int.mul_nonneg h0 (Int.le_of_lt hp)
  have a2 : 0 ≤ lo * p := Int.mul_nonneg l0 (Int.le_of_lt hp)
  have a3 : (hi + 1) * p ≤ y * p := Int.mul_le_mul_of_nonneg_right (by omega) (Int.le_of_lt hp)
  have a4 : lo * p < 18446744073709551616 * p := Int.mul_lt_mul_of_pos_right l1 hp
  rw [Int.add_mul, Int.one_mul] at a3
  omega
theorem div_wide {hi lo y : Int} (y0 : 1 ≤ y) (y1 : y ≤ 1099511627776) (h0 : 0 ≤ hi) (h1 : hi < y) (l0 : 0 ≤ lo) (l1 : lo < 18446744073709551616) :
    ∃ z, Ev (fun k => bits_Div64.f k hi lo y) ((hi * 18446744073709551616 + lo) / y, z) := by
  unfold bits_Div64.f
  simp only [if_neg (show ¬ y = 0 by omega)]
  by_cases hz : hi = 0
  · subst hz
    refine ⟨lo % y, ev_succ ?_⟩
    simp only [bits_Div64.j0, if_neg (show ¬ y ≤ 0 by omega)]
    refine ev_succ ?_
    have d0 : 0 ≤ lo / y := Int.ediv_nonneg l0 (by omega)
    have d1 : lo / y ≤ lo := Int.ediv_le_self _ l0
    simp only [bits_Div64.j1, if_true, if_neg (show ¬ y = 0 by omega), tdiv_pos l0, tmod_pos l0, wu_in d0 (show lo / y < 18446744073709551616 by omega), Int.zero_mul, Int.zero_add]
    exact Ev.now _
  · obtain ⟨s, hs, s1, s63, n0, n1⟩ := zeros_of y0 y1
    have hp := two_pos s
    obtain ⟨g0, g1, g2⟩ := div_top hp h0 h1 l0 l1
    have hlp : 0 ≤ lo * 2 ^ s := Int.mul_nonneg l0 (Int.le_of_lt hp)
    have hpW : (2 : Int) ^ (64 - s) * 2 ^ s = 18446744073709551616 := by rw [← Int.pow_add, show 64 - s + s = 64 by omega]; rfl
    have sy : shl .u64 y (s : Int) = y * 2 ^ s := by
      unfold shl
      rw [Int.toNat_natCast, show IntKind.u64.bits = 64 from rfl, Nat.min_eq_left (by omega)]
      exact wu_in (by omega) n1
    have slo : shl .u64 lo (s : Int) = lo * 2 ^ s % 18446744073709551616 := by
      unfold shl
      rw [Int.toNat_natCast, show IntKind.u64.bits = 64 from rfl, Nat.min_eq_left (by omega), wu]
    have hhp : hi * 2 ^ s ≤ y * 2 ^ s := Int.mul_le_mul_of_nonneg_right (by omega) (Int.le_of_lt hp)
    have hh0 : 0 ≤ hi * 2 ^ s := Int.mul_nonneg h0 (Int.le_of_lt hp)
    have shi : shl .u64 hi (s : Int) = hi * 2 ^ s := by
      unfold shl
      rw [Int.toNat_natCast, show IntKind.u64.bits = 64 from rfl, Nat.min_eq_left (by omega)]
      exact wu_in hh0 (by omega)
    have shrr : shr .u64 lo (64 - (s : Int)) = lo * 2 ^ s / 18446744073709551616 := by
      unfold shr
      rw [show (64 - (s : Int)).toNat = 64 - s by omega, show IntKind.u64.bits = 64 from rfl, Nat.min_eq_left (by omega), ← hpW, Int.mul_ediv_mul_of_pos_left _ _ hp]
    have hor : Go.bits .or .u64 (hi * 2 ^ s) (lo * 2 ^ s / 18446744073709551616) = hi * 2 ^ s + lo * 2 ^ s / 18446744073709551616 :=
      Go.bits_join .u64 64 (by decide) wraps_u64 s _ _ hh0 (Int.mul_emod_left _ _) (by omega) (by omega) g2 (by omega)
    have hand : ∀ n : Int, 0 ≤ n → n < 18446744073709551616 → Go.bits .and .u64 n 4294967295 = n % 4294967296 := fun n m0 m1 => Go.bits_mask .u64 64 (by decide) wraps_u64 32 (by decide) n m0 (by omega)
    obtain ⟨U, hU⟩ : ∃ U, hi * 2 ^ s + lo * 2 ^ s / 18446744073709551616 = U := ⟨_, rfl⟩
    obtain ⟨Y, hY⟩ : ∃ Y, y * 2 ^ s = Y := ⟨_, rfl⟩
    obtain ⟨V, hV⟩ : ∃ V, lo * 2 ^ s % 18446744073709551616 = V := ⟨_, rfl⟩
    have hT : (hi * 18446744073709551616 + lo) * 2 ^ s = U * 18446744073709551616 + V := by
      rw [Int.add_mul, ← hU, ← hV, Int.mul_right_comm]
      omega
    have hdiv : (hi * 18446744073709551616 + lo) / y = (U * 18446744073709551616 + V) / Y := by
      rw [← hT, ← hY, Int.mul_ediv_mul_of_pos_left _ _ hp]
    rw [hY] at n0 n1 g1 sy
    rw [hU] at g0 g1 hor
    rw [hV] at slo
    have v0 : 0 ≤ V ∧ V < 18446744073709551616 := by omega
    clear hT hpW hhp hh0 g2 hlp hY hV hp
    have aU0 : 0 ≤ U / (Y / 4294967296) := Int.ediv_nonneg g0 (by omega)
    have hD := Dig.start (y := Y) (a := Y / 4294967296) (b := Y % 4294967296) (U := U) (c := V / 4294967296) (by omega) (by omega) (by omega) (by omega) (by omega) (by omega) (by omega) g0 g1
    obtain ⟨z, hj⟩ := div_j4 (y := Y) (s := (s : Int)) (a := Y / 4294967296) (b := Y % 4294967296) (U := U) (c := V / 4294967296) (u0 := V % 4294967296) n1 (by omega) (by omega) (by omega) (by omega) (by omega) (by omega) (by omega) (by omega) (by omega) (by omega) g0 g1
    have hres : (U * 18446744073709551616 + V) / Y = (U * 4294967296 + V / 4294967296) / Y * 4294967296 + ((U * 4294967296 + V / 4294967296 - (U * 4294967296 + V / 4294967296) / Y * Y) * 4294967296 + V % 4294967296) / Y := by
      have lo1 := hD.lo
      have hi1 := hD.hi
      generalize (U * 4294967296 + V / 4294967296) / Y = Q at *
      rw [Int.add_mul, Int.one_mul] at hi1
      have e := Int.mul_ediv_add_emod ((U * 4294967296 + V / 4294967296 - Q * Y) * 4294967296 + V % 4294967296) Y
      have r0 := Int.emod_nonneg ((U * 4294967296 + V / 4294967296 - Q * Y) * 4294967296 + V % 4294967296) (show Y ≠ 0 by omega)
      have r1 := Int.emod_lt_of_pos ((U * 4294967296 + V / 4294967296 - Q * Y) * 4294967296 + V % 4294967296) (show 0 < Y by omega)
      generalize ((U * 4294967296 + V / 4294967296 - Q * Y) * 4294967296 + V % 4294967296) / Y = P at *
      generalize ((U * 4294967296 + V / 4294967296 - Q * Y) * 4294967296 + V % 4294967296) % Y = R at *
      refine ediv_of (show 0 < Y by omega) (r := R) ?_ r0 r1
      rw [Int.mul_add, ← Int.mul_assoc, Int.mul_comm Y Q]
      omega
    rw [hdiv, hres]
    refine ⟨z, ev_succ ?_⟩
    simp only [bits_Div64.j0, if_neg (show ¬ y ≤ hi by omega)]
    refine ev_succ ?_
    simp only [bits_Div64.j1, if_neg hz]
    refine Ev.bind hs ?_
    have w1 : IntKind.u64.wrap (s : Int) = s := wu_in (by omega) (by omega)
    have w2 : IntKind.u64.wrap (64 - (s : Int)) = 64 - s := wu_in (by omega) (by omega)
    have t1 : U / (Y / 4294967296) < 18446744073709551616 := by have := hD.qB; omega
    have t2 := Int.mul_ediv_add_emod U (Y / 4294967296)
    have t5 := hD.r0
    have t6 := hD.r1
    have t3 : IntKind.u64.wrap (U / (Y / 4294967296) * (Y / 4294967296)) = U / (Y / 4294967296) * (Y / 4294967296) := wu_in (Int.mul_nonneg aU0 (by omega)) (by rw [Int.mul_comm]; omega)
    have t4 : U - U / (Y / 4294967296) * (Y / 4294967296) = U % (Y / 4294967296) := by rw [Int.mul_comm]; omega
    simp only [w1, w2, if_pos (show (0 : Int) ≤ (s : Int) by omega), if_pos (show (0 : Int) ≤ 64 - (s : Int) by omega), sy, slo, shi, shrr, hor, hand Y (by omega) n1, hand V v0.1 v0.2, if_neg (show ¬ Y / 4294967296 = 0 by omega), tdiv_pos g0, wu_in aU0 t1, t3, t4, wu_in t5 (show U % (Y / 4294967296) < 18446744073709551616 by omega)]
    exact div_l0 hj _ _ _ rfl hD
/-! #### sums of squares, the length as the program reads it -/
theorem spec_plus {h l b : Int} (h0 : 0 ≤ h) (h1 : h < 9223372036854775808) (l0 : 0 ≤ l) (l1 : l < 18446744073709551616) (b0 : 0 ≤ b) (b1 : b < 18446744073709551616) :
    spec_l1Plus.f h l b = some ((h * 18446744073709551616 + l + b) / 18446744073709551616, (h * 18446744073709551616 + l + b) % 18446744073709551616) := by
  unfold spec_l1Plus.f
  rw [wu, wu_in (n := h + 1) (by omega) (by omega)]
  by_cases c : (l + b) % 18446744073709551616 < l
  · rw [if_pos c]; congr 1; rw [Prod.mk.injEq]; omega
  · rw [if_neg c]; congr 1; rw [Prod.mk.injEq]; omega
theorem spec_sum {h l h' l' : Int} (h0 : 0 ≤ h) (h1 : h < 4611686018427387904) (l0 : 0 ≤ l) (l1 : l < 18446744073709551616) (g0 : 0 ≤ h') (g1 : h' < 4611686018427387904) (k0 : 0 ≤ l') (k1 : l' < 18446744073709551616) :
    spec_l1Sum.f h l h' l' = some ((h * 18446744073709551616 + l + (h' * 18446744073709551616 + l')) / 18446744073709551616, (h * 18446744073709551616 + l + (h' * 18446744073709551616 + l')) % 18446744073709551616) := by
  unfold spec_l1Sum.f
  rw [spec_plus h0 (by omega) l0 l1 k0 k1]
  simp only [Option.bind_some]
  rw [wu_in (by omega) (by omega)]
  congr 1; rw [Prod.mk.injEq]; omega
theorem spec_abs {a : Int} (h0 : -9223372036854775807 ≤ a) (h1 : a ≤ 9223372036854775807) : spec_l1Abs.f a = some (impl_LengthOf.abs a) := by
  unfold spec_l1Abs.f impl_LengthOf.abs
  split
  · rw [wrap_small (by omega) (by omega)]
  · rfl
theorem spec_squares {x y : Int} (a0 : -1099511627776 ≤ x) (a1 : x ≤ 1099511627776) (b0 : -1099511627776 ≤ y) (b1 : y ≤ 1099511627776) :
    spec_l1Squares.f x y = some ((impl_LengthOf.abs x * impl_LengthOf.abs x + impl_LengthOf.abs y * impl_LengthOf.abs y) / 18446744073709551616, (impl_LengthOf.abs x * impl_LengthOf.abs x + impl_LengthOf.abs y * impl_LengthOf.abs y) % 18446744073709551616) ∧ 0 ≤ impl_LengthOf.abs x * impl_LengthOf.abs x + impl_LengthOf.abs y * impl_LengthOf.abs y := by
  have I1 := impl_LengthOf.absIn a0 a1
  have I2 := impl_LengthOf.absIn b0 b1
  have P0 : 0 ≤ impl_LengthOf.abs x * impl_LengthOf.abs x := Int.mul_nonneg I1.1 I1.1
  have P1 : impl_LengthOf.abs x * impl_LengthOf.abs x ≤ 1099511627776 * 1099511627776 := Int.mul_le_mul I1.2 I1.2 I1.1 (by omega)
  have Q0 : 0 ≤ impl_LengthOf.abs y * impl_LengthOf.abs y := Int.mul_nonneg I2.1 I2.1
  have Q1 : impl_LengthOf.abs y * impl_LengthOf.abs y ≤ 1099511627776 * 1099511627776 := Int.mul_le_mul I2.2 I2.2 I2.1 (by omega)
  unfold spec_l1Squares.f
  simp only [spec_abs (a := x) (by omega) (by omega), spec_abs (a := y) (by omega) (by omega), Option.bind_some, wu_in (n := impl_LengthOf.abs x) (by omega) (by omega), wu_in (n := impl_LengthOf.abs y) (by omega) (by omega), spec_times (a := impl_LengthOf.abs x) (b := impl_LengthOf.abs x) (by omega) (by omega) (by omega) (by omega), spec_times (a := impl_LengthOf.abs y) (b := impl_LengthOf.abs y) (by omega) (by omega) (by omega) (by omega)]
  generalize impl_LengthOf.abs x * impl_LengthOf.abs x = P at *
  generalize impl_LengthOf.abs y * impl_LengthOf.abs y = Q at *
  rw [spec_sum (by omega) (by omega) (by omega) (by omega) (by omega) (by omega) (by omega) (by omega)]
  rw [show P / 18446744073709551616 * 18446744073709551616 + P % 18446744073709551616 + (Q / 18446744073709551616 * 18446744073709551616 + Q % 18446744073709551616) = P + Q by omega]
  exact ⟨rfl, by omega⟩
def lenV (a b : Int) : Int := if (fixB a && fixB b) = true then impl_LengthOf.g a b else 0
theorem impl_len (a b : Int) : Ev (fun k => impl_LengthOf.f k a b) (lenV a b) := by
  unfold impl_LengthOf.f lenV
  have hl := impl_fixes [a, b] (by simp)
  simp only [List.all_cons, List.all_nil, Bool.and_true] at hl
  refine Ev.bind hl ?_
  cases hx : fixB a && fixB b with
  | false => simp only [Bool.false_eq_true, if_false]; exact Ev.now _
  | true =>
    have h2 := Bool.and_eq_true_iff.1 hx
    have ba := fixB_iff.1 h2.1
    have bb := fixB_iff.1 h2.2
    simp only [if_true, if_pos (show -1099511627776 ≤ a ∧ a ≤ 1099511627776 ∧ -1099511627776 ≤ b ∧ b ≤ 1099511627776 from ⟨ba.1, ba.2, bb.1, bb.2⟩)]
    exact Ev.now _
/-! #### a step cut to its share -/
def cutV (d m n : Int) : Int := if d < 0 then -(impl_LengthOf.abs d * m / n) else impl_LengthOf.abs d * m / n
theorem cut_small {A m n : Int} (A0 : 0 ≤ A) (A1 : A ≤ 1099511627776) (m0 : 0 ≤ m) (mn : m < n) : 0 ≤ A * m ∧ A * m ≤ 1099511627776 * m ∧ 0 ≤ A * m / n ∧ A * m / n ≤ 1099511627776 := by
  have P0 : 0 ≤ A * m := Int.mul_nonneg A0 m0
  have P1 : A * m ≤ A * n := Int.mul_le_mul_of_nonneg_left (by omega) A0
  refine ⟨P0, Int.mul_le_mul_of_nonneg_right A1 m0, Int.ediv_nonneg P0 (by omega), ?_⟩
  exact Int.le_trans (Int.ediv_le_of_le_mul (by omega) P1) A1
theorem spec_cut {d m n : Int} (d0 : -1099511627776 ≤ d) (d1 : d ≤ 1099511627776) (m0 : 0 ≤ m) (mn : m < n) (n1 : n ≤ 1099511627776) : Ev (fun k => spec_l7Cut.f k d m n) (cutV d m n) := by
  have I := impl_LengthOf.absIn d0 d1
  have C := cut_small I.1 I.2 m0 mn
  unfold spec_l7Cut.f cutV
  rw [spec_abs (by omega) (by omega)]
  generalize impl_LengthOf.abs d = A at *
  simp only [Option.bind_some, wu_in (n := A) (by omega) (by omega), wu_in (n := m) (by omega) (by omega), wu_in (n := n) (by omega) (by omega), spec_times (a := A) (b := m) (by omega) (by omega) (by omega) (by omega)]
  have eq : A * m / 18446744073709551616 * 18446744073709551616 + A * m % 18446744073709551616 = A * m := by omega
  have o := spec_over (h := A * m / 18446744073709551616) (l := A * m % 18446744073709551616) (b := n) (most := 1099511627776) (by omega) (by omega) (by omega) (by omega) (by omega) (by omega) (by omega)
  rw [eq] at o
  have e2 : (if 1099511627776 ≤ A * m / n then 1099511627776 else A * m / n) = A * m / n := by split <;> omega
  rw [e2] at o
  refine Ev.bind o ?_
  rw [wrap_small (i := A * m / n) (by omega) (by omega)]
  split
  · rw [wrap_small (by omega) (by omega)]; exact Ev.now _
  · exact Ev.now _
theorem impl_scale {d m n : Int} (d0 : -1099511627776 ≤ d) (d1 : d ≤ 1099511627776) (m0 : 0 ≤ m) (mn : m < n) (n1 : n ≤ 1099511627776) : Ev (fun k => impl_scaled.f k d m n) (cutV d m n) := by
  have I := impl_LengthOf.absIn d0 d1
  have C := cut_small I.1 I.2 m0 mn
  unfold impl_scaled.f cutV
  rw [impl_LengthOf.sized d0 d1]
  generalize impl_LengthOf.abs d = A at *
  simp only [Option.bind_some, wu_in (n := A) (by omega) (by omega), wu_in (n := m) (by omega) (by omega), wu_in (n := n) (by omega) (by omega), impl_LengthOf.mul64 (x := A) (y := m) (by omega) (by omega) (by omega) (by omega)]
  have eq : A * m / 18446744073709551616 * 18446744073709551616 + A * m % 18446744073709551616 = A * m := by omega
  obtain ⟨z, o⟩ := div_wide (hi := A * m / 18446744073709551616) (lo := A * m % 18446744073709551616) (y := n) (by omega) (by omega) (by omega) (by omega) (by omega) (by omega)
  rw [eq] at o
  refine Ev.bind o ?_
  dsimp only
  rw [wrap_small (i := A * m / n) (by omega) (by omega)]
  split
  · rw [wrap_small (by omega) (by omega)]; exact Ev.now _
  · exact Ev.now _
def steerV (d e m : Int) : Int × Int := if impl_LengthOf.g d e ≤ m then (d, e) else (cutV d m (impl_LengthOf.g d e), cutV e m (impl_LengthOf.g d e))
theorem g_most (d e : Int) : impl_LengthOf.g d e ≤ 1099511627776 := by unfold impl_LengthOf.g mn; split <;> omega
theorem spec_steer_step {d e m : Int} (d0 : -1099511627776 ≤ d) (d1 : d ≤ 1099511627776) (e0 : -1099511627776 ≤ e) (e1 : e ≤ 1099511627776) (m0 : 0 ≤ m) (m1 : m ≤ 1099511627776) : Ev (fun k => spec_Steer.j1 k m d e (impl_LengthOf.g d e)) (steerV d e m) := by
  refine ev_succ ?_
  have g1 := g_most d e
  unfold steerV
  generalize impl_LengthOf.g d e = n at *
  by_cases h : n ≤ m
  · simp only [spec_Steer.j1, if_pos h]; exact Ev.now _
  · simp only [spec_Steer.j1, if_neg h]
    exact Ev.bind (spec_cut d0 d1 m0 (by omega) g1) (Ev.bind (spec_cut e0 e1 m0 (by omega) g1) (Ev.now _))
theorem spec_steer_bad (a b c d m : Int) : Ev (fun k => spec_Steer.j0 k a b c d m true) (0, 0) := by
  refine ev_succ ?_
  simp only [spec_Steer.j0, if_true]; exact Ev.now _
theorem impl_steer_bad (a b c d m : Int) : Ev (fun k => impl_Steer.j0 k a b c d m true) (0, 0) := by
  refine ev_succ ?_
  simp only [impl_Steer.j0, if_true]; exact Ev.now _
theorem spec_steer_ok {a b c d m : Int} (hd : fixB (wrap64 (c - a)) = true) (he : fixB (wrap64 (d - b)) = true) (hm : inB m 0 1099511627776 = true) : Ev (fun k => spec_Steer.j0 k a b c d m false) (steerV (wrap64 (c - a)) (wrap64 (d - b)) m) := by
  refine ev_succ ?_
  have D := fixB_iff.1 hd
  have E := fixB_iff.1 he
  have M := inB_iff.1 hm
  simp only [spec_Steer.j0]
  generalize wrap64 (c - a) = x at *
  generalize wrap64 (d - b) = y at *
  obtain ⟨hs, h0⟩ := spec_squares D.1 D.2 E.1 E.2
  have st := spec_steer_step D.1 D.2 E.1 E.2 M.1 M.2
  simp only [Bool.false_eq_true, if_false, hs, Option.bind_some]
  have hg : impl_LengthOf.g x y = mn (isq (impl_LengthOf.abs x * impl_LengthOf.abs x + impl_LengthOf.abs y * impl_LengthOf.abs y).toNat : Int) 1099511627776 := rfl
  generalize impl_LengthOf.abs x * impl_LengthOf.abs x + impl_LengthOf.abs y * impl_LengthOf.abs y = T at *
  refine Ev.bind (spec_root (h := T / 18446744073709551616) (l := T % 18446744073709551616) (by omega) (by omega) (by omega) (by omega) (by omega)) ?_
  rw [show T / 18446744073709551616 * 18446744073709551616 + T % 18446744073709551616 = T by omega]
  rw [wrap_small (by split <;> omega) (by split <;> omega)]
  generalize impl_LengthOf.g x y = n at *
  unfold mn at hg
  generalize (isq T.toNat : Int) = r at *
  generalize hv : (if 2199023255552 ≤ r then 2199023255552 else r) = v
  by_cases h : v > 1099511627776
  · simp only [if_pos h]
    have : (1099511627776 : Int) = n := by subst hg; subst hv; split at h <;> split <;> omega
    rw [this]; exact st
  · simp only [if_neg h]
    have : v = n := by subst hg; subst hv; split at h <;> (try split) <;> (try split) <;> omega
    rw [this]; exact st
theorem impl_steer_ok {a b c d m : Int} (hd : fixB (wrap64 (c - a)) = true) (he : fixB (wrap64 (d - b)) = true) (hm : inB m 0 1099511627776 = true) : Ev (fun k => impl_Steer.j0 k a b c d m false) (steerV (wrap64 (c - a)) (wrap64 (d - b)) m) := by
  refine ev_succ ?_
  have D := fixB_iff.1 hd
  have E := fixB_iff.1 he
  have M := inB_iff.1 hm
  simp only [impl_Steer.j0]
  generalize wrap64 (c - a) = x at *
  generalize wrap64 (d - b) = y at *
  simp only [Bool.false_eq_true, if_false]
  refine Ev.bind (impl_len x y) ?_
  unfold lenV steerV
  rw [hd, he]
  simp only [Bool.and_self, if_true]
  have g1 := g_most x y
  generalize impl_LengthOf.g x y = n at *
  by_cases h : n ≤ m
  · simp only [if_pos h, if_neg (show ¬ n > m by omega)]; exact Ev.now _
  · simp only [if_neg h, if_pos (show n > m by omega)]
    exact Ev.bind (impl_scale D.1 D.2 M.1 (by omega) g1) (Ev.bind (impl_scale E.1 E.2 M.1 (by omega) g1) (Ev.now _))
def steerOk (a b c d m : Int) : Bool := fixB a && (fixB b && (fixB c && (fixB d && (fixB (wrap64 (c - a)) && (fixB (wrap64 (d - b)) && inB m 0 1099511627776)))))
theorem spec_steer (a b c d m : Int) : Ev (fun k => spec_Steer.f k a b c d m) (if steerOk a b c d m = true then steerV (wrap64 (c - a)) (wrap64 (d - b)) m else (0, 0)) := by
  unfold spec_Steer.f steerOk
  simp only [spec_fix, spec_in, Option.bind_some]
  cases fixB a with
  | false => simp only [Bool.false_eq_true, if_false, Bool.false_and]; exact spec_steer_bad a b c d m
  | true =>
  cases fixB b with
  | false => simp only [Bool.false_eq_true, if_true, if_false, Bool.false_and, Bool.true_and]; exact spec_steer_bad a b c d m
  | true =>
  cases fixB c with
  | false => simp only [Bool.false_eq_true, if_true, if_false, Bool.false_and, Bool.true_and]; exact spec_steer_bad a b c d m
  | true =>
  cases fixB d with
  | false => simp only [Bool.false_eq_true, if_true, if_false, Bool.false_and, Bool.true_and]; exact spec_steer_bad a b c d m
  | true =>
  cases hd : fixB (wrap64 (c - a)) with
  | false => simp only [Bool.false_eq_true, if_true, if_false, Bool.false_and, Bool.true_and]; exact spec_steer_bad a b c d m
  | true =>
  cases he : fixB (wrap64 (d - b)) with
  | false => simp only [Bool.false_eq_true, if_true, if_false, Bool.false_and, Bool.true_and]; exact spec_steer_bad a b c d m
  | true =>
  cases hm : inB m 0 1099511627776 with
  | false => simp only [Bool.false_eq_true, if_true, if_false, Bool.true_and, Bool.not_false]; exact spec_steer_bad a b c d m
  | true => simp only [if_true, Bool.true_and, Bool.not_true]; exact spec_steer_ok hd he hm
theorem impl_steer (a b c d m : Int) : Ev (fun k => impl_Steer.f k a b c d m) (if steerOk a b c d m = true then steerV (wrap64 (c - a)) (wrap64 (d - b)) m else (0, 0)) := by
  unfold impl_Steer.f
  have hl := impl_fixes [a, b, c, d, wrap64 (c - a), wrap64 (d - b)] (by simp)
  refine Ev.bind hl ?_
  have e : steerOk a b c d m = ([a, b, c, d, wrap64 (c - a), wrap64 (d - b)].all fixB && inB m 0 1099511627776) := by
    simp only [steerOk, List.all_cons, List.all_nil, Bool.and_true, Bool.and_assoc]
  rw [e]
  cases hx : [a, b, c, d, wrap64 (c - a), wrap64 (d - b)].all fixB with
  | false => simp only [Bool.false_eq_true, if_false, Bool.false_and]; exact impl_steer_bad a b c d m
  | true =>
    simp only [if_true, impl_in, Option.bind_some, Bool.true_and]
    simp only [List.all_cons, List.all_nil, Bool.and_true, Bool.and_eq_true] at hx
    obtain ⟨_, _, _, _, hd, he⟩ := hx
    cases hm : inB m 0 1099511627776 with
    | false => simp only [Bool.false_eq_true, if_false, Bool.not_false]; exact impl_steer_bad a b c d m
    | true => simp only [if_true, Bool.not_true]; exact impl_steer_ok hd he hm
theorem FnExactSteer : laws_FnExactSteer.Pure := by
  intro a b c d m _ _ _ _ _
  apply Ev.rounds (r := true)
  unfold laws_FnExactSteer.f
  refine Ev.bind (spec_steer a b c d m) (Ev.bind (impl_steer a b c d m) ?_)
  simp only [if_true]
  exact Ev.now true
end Go.Proofs.Ytcdchmdkcdlklaa.Pure
