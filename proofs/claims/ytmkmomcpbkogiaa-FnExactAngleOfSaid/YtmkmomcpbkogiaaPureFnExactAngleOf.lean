/- The program's AngleOf and the reference's answer alike at every two whole numbers. No condition. -/
import Derived.Test.YtmkmomcpbkogiaaPFnExactAngleOfx2
namespace Go.Proofs.Ytmkmomcpbkogiaa.Pure
open Go.RowKit Go.Proofs.Ytmkmomcpbkogiaa.PFnExactAngleOf Go.Proofs.YtmkmomcpbkogiaaW.PrintWords Go.Proofs.YtmkmomcpbkogiaaW.PrintLast Go.Proofs.YtmkmomcpbkogiaaW.PrintMore
set_option linter.unusedVariables false
set_option linter.unusedSimpArgs false
/-! #### whole numbers: wraps, quotients towards nought -/
theorem wrap_small {i : Int} (h0 : -9223372036854775808 ≤ i) (h1 : i ≤ 9223372036854775807) : wrap64 i = i := by unfold wrap64; omega
theorem tdiv_pos {a b : Int} (ha : 0 ≤ a) : Int.tdiv a b = a / b := Int.tdiv_eq_ediv_of_nonneg ha
theorem tmod_pos {a b : Int} (ha : 0 ≤ a) : Int.tmod a b = a % b := Int.tmod_eq_emod_of_nonneg ha
theorem tdiv_neg' {a b : Int} (ha : a < 0) : Int.tdiv a b = -((-a) / b) := by
  rw [← Int.tdiv_eq_ediv_of_nonneg (a := -a) (by omega), Int.neg_tdiv, Int.neg_neg]
theorem tmod_neg' {a b : Int} (ha : a < 0) : Int.tmod a b = -((-a) % b) := by
  rw [← Int.tmod_eq_emod_of_nonneg (a := -a) (by omega), Int.neg_tmod, Int.neg_neg]
theorem wf64 {a : Int} (h : (Lit.int .i64 a).wf = true) : -9223372036854775808 ≤ a ∧ a ≤ 9223372036854775807 := by
  simp [Lit.wf, IntKind.min, IntKind.max, IntKind.signed, IntKind.bits] at h
  omega
theorem ev_succ {α : Type} {g : Nat → Option α} {r : α} (h : Ev (fun k => g (k + 1)) r) : Ev g r := Ev.step (f := fun k => g (k + 1)) (fun _ => rfl) h
theorem ev_eq {α : Type} {g : Nat → Option α} {r : α} (h : ∀ k, g k = some r) : Ev g r := ⟨0, fun k _ => h k⟩
theorem ev_val {α : Type} {g : Nat → Option α} {r r' : α} (h : Ev g r) (e : r = r') : Ev g r' := e ▸ h
/-! #### the sine -/
theorem spec_mod4096 {a : Int} (h0 : -9223372036854775808 ≤ a) (h1 : a ≤ 9223372036854775807) : spec_l1Mod.f a 4096 = some (a % 4096) := by
  unfold spec_l1Mod.f spec_l1Down.f
  rw [if_neg (by omega)]
  by_cases hs : 0 ≤ a
  · rw [tdiv_pos hs, tmod_pos hs]
    by_cases hm : a % 4096 = 0
    · rw [if_pos hm]; simp only [Option.bind_some]; congr 1; unfold wrap64; omega
    · rw [if_neg hm, if_neg (by simp; omega)]; simp only [Option.bind_some]; congr 1; unfold wrap64; omega
  · rw [tdiv_neg' (by omega), tmod_neg' (by omega)]
    by_cases hm : -(-a % 4096) = 0
    · rw [if_pos hm]; simp only [Option.bind_some]; congr 1; unfold wrap64; omega
    · rw [if_neg hm, if_pos (by simp; omega)]; simp only [Option.bind_some]; congr 1; unfold wrap64; omega
theorem impl_mod4096 {a : Int} (h0 : -9223372036854775808 ≤ a) (h1 : a ≤ 9223372036854775807) : impl_mod.f a 4096 = some (a % 4096) := by
  unfold impl_mod.f
  rw [if_neg (by omega)]
  congr 1
  by_cases hs : 0 ≤ a
  · rw [tmod_pos hs, wrap_small (by omega) (by omega), tmod_pos (by omega)]; omega
  · rw [tmod_neg' (a := a) (by omega), wrap_small (by omega) (by omega), tmod_pos (by omega)]; omega
/-- The sine of whatever angle, as both say it. -/
def sinV (a : Int) : Int := if a % 4096 < 2048 then impl_SinOf.g (a % 4096) else -(impl_SinOf.g (a % 4096 - 2048))
theorem sinV_range (a : Int) : -65536 ≤ sinV a ∧ sinV a ≤ 65536 := by
  unfold sinV
  split
  · have := impl_SinOf.range (a % 4096) (by omega) (by omega); omega
  · have := impl_SinOf.range (a % 4096 - 2048) (by omega) (by omega); omega
theorem impl_sin {a : Int} (h0 : -9223372036854775808 ≤ a) (h1 : a ≤ 9223372036854775807) : impl_SinOf.f a = some (sinV a) := by
  unfold impl_SinOf.f sinV
  rw [impl_mod4096 h0 h1]
  simp only [Option.bind_some]
  split <;> rfl
theorem tab_range (q : Int) : 0 ≤ impl_SinOf.tab q ∧ impl_SinOf.tab q ≤ 65536 := by
  unfold impl_SinOf.tab rd
  have h : ∀ x ∈ ([0, 6424, 12785, 19024, 25080, 30893, 36410, 41576, 46341, 50660, 54491, 57798, 60547, 62714, 64277, 65220, 65536] : List Int), 0 ≤ x ∧ x ≤ 65536 := by decide
  rcases Nat.lt_or_ge q.toNat ([0, 6424, 12785, 19024, 25080, 30893, 36410, 41576, 46341, 50660, 54491, 57798, 60547, 62714, 64277, 65220, 65536] : List Int).length with hl | hl
  · rw [List.getD_eq_getElem?_getD, List.getElem?_eq_getElem hl]
    exact h _ (List.getElem_mem hl)
  · rw [List.getD_eq_getElem?_getD, List.getElem?_eq_none hl]
    exact ⟨by decide, by decide⟩
theorem interp {s t r : Int} (hs0 : 0 ≤ s) (hs1 : s ≤ 65536) (ht0 : 0 ≤ t) (ht1 : t ≤ 65536) (hr0 : 0 ≤ r) (hr1 : r < 64) :
    wrap64 ((wrap64 (wrap64 (wrap64 (s * wrap64 (64 - r)) + wrap64 (t * r)) + 32)).tdiv 64) = (s * (64 - r) + t * r + 32) / 64 := by
  have a0 : 0 ≤ s * (64 - r) := Int.mul_nonneg hs0 (by omega)
  have a1 : s * (64 - r) ≤ 65536 * 64 := Int.mul_le_mul hs1 (by omega) (by omega) (by omega)
  have b0 : 0 ≤ t * r := Int.mul_nonneg ht0 hr0
  have b1 : t * r ≤ 65536 * 64 := Int.mul_le_mul ht1 (by omega) hr0 (by omega)
  rw [wrap_small (i := 64 - r) (by omega) (by omega), wrap_small (i := s * (64 - r)) (by omega) (by omega), wrap_small (i := t * r) (by omega) (by omega)]
  rw [wrap_small (i := s * (64 - r) + t * r) (by omega) (by omega), wrap_small (i := s * (64 - r) + t * r + 32) (by omega) (by omega), tdiv_pos (by omega), wrap_small (by omega) (by omega)]
theorem spec_sin_low {a : Int} (h0 : 0 ≤ a) (h1 : a ≤ 1024) (k : Nat) : spec_SinOf.f (k + 1) a = some (impl_SinOf.lin a) := by
  simp only [spec_SinOf.f]
  rw [spec_mod4096 (by omega) (by omega), show a % 4096 = a by omega]
  simp only [Option.bind_some]
  rw [if_neg (by omega), if_neg (by omega)]
  unfold impl_SinOf.lin
  by_cases e : a = 1024
  · rw [if_pos e, if_pos e]
  · rw [if_neg e, if_neg e]
    unfold spec_l1Table.f
    simp only [Option.bind_some]
    rw [tdiv_pos h0, tmod_pos h0, wrap_small (i := a / 64) (by omega) (by omega), wrap_small (i := a / 64 + 1) (by omega) (by omega), if_pos (by omega), if_pos (by simp; omega), if_pos (by omega), if_pos (by simp; omega)]
    congr 1
    exact interp (tab_range _).1 (tab_range _).2 (tab_range _).1 (tab_range _).2 (by omega) (by omega)
theorem spec_sin_mid {a : Int} (h0 : 0 ≤ a) (h1 : a < 2048) (k : Nat) : spec_SinOf.f (k + 2) a = some (impl_SinOf.g a) := by
  unfold impl_SinOf.g
  by_cases c : a > 1024
  · rw [if_pos c]
    rw [spec_SinOf.f, spec_mod4096 (by omega) (by omega), show a % 4096 = a by omega]
    simp only [Option.bind_some]
    rw [if_neg (by omega), if_pos c, wrap_small (by omega) (by omega), spec_sin_low (by omega) (by omega) k]
    rfl
  · rw [if_neg c, spec_sin_low h0 (by omega) (k + 1)]
theorem spec_sin {a : Int} (h0 : -9223372036854775808 ≤ a) (h1 : a ≤ 9223372036854775807) (k : Nat) : spec_SinOf.f (k + 3) a = some (sinV a) := by
  unfold sinV
  by_cases c : a % 4096 < 2048
  · rw [if_pos c]
    have e : spec_SinOf.f (k + 3) a = spec_SinOf.f (k + 3) (a % 4096) := by
      rw [spec_SinOf.f, spec_SinOf.f, spec_mod4096 h0 h1, spec_mod4096 (by omega) (by omega), Int.emod_emod_of_dvd _ (Int.dvd_refl 4096)]
    rw [e, spec_sin_mid (by omega) c (k + 1)]
  · rw [if_neg c]
    rw [spec_SinOf.f, spec_mod4096 h0 h1]
    simp only [Option.bind_some]
    rw [if_pos (by omega), wrap_small (by omega) (by omega), spec_sin_mid (by omega) (by omega) k]
    have := impl_SinOf.range (a % 4096 - 2048) (by omega) (by omega)
    simp only [Option.bind_some]
    rw [wrap_small (by omega) (by omega)]
/-! #### is a number in a span -/
def inB (a b c : Int) : Bool := decide (b ≤ a ∧ a ≤ c)
theorem inB_iff {a b c : Int} : inB a b c = true ↔ b ≤ a ∧ a ≤ c := by unfold inB; rw [decide_eq_true_eq]
theorem spec_in (a b c : Int) : spec_l1In.f a b c = some (inB a b c) := by
  unfold spec_l1In.f inB
  by_cases h : a ≥ b
  · rw [if_pos h]; congr 1; rw [decide_eq_decide]; omega
  · rw [if_neg h]; congr 1; exact (decide_eq_false (by omega)).symm
theorem impl_in (a b c : Int) : impl_inRange.f a b c = some (inB a b c) := by
  unfold impl_inRange.f inB
  by_cases h : b ≤ a
  · rw [if_pos h]; congr 1; rw [decide_eq_decide]; omega
  · rw [if_neg h]; congr 1; exact (decide_eq_false (by omega)).symm
/-! #### loops that go up, from a place on -/
theorem Ev_up {σ ρ : Type} (g : Nat → Nat → σ → Option ρ) (n : Nat) (Inv : Nat → σ → Prop) (Post : ρ → Prop)
    (hend : ∀ s, Inv n s → ∃ r, Ev (fun k => g k n s) r ∧ Post r)
    (hstep : ∀ i s, i < n → Inv i s → (∃ r, Ev (fun k => g k i s) r ∧ Post r) ∨ (∃ s', Inv (i + 1) s' ∧ ∀ r, Ev (fun k => g k (i + 1) s') r → Ev (fun k => g k i s) r))
    (d : Nat) : ∀ i s, n - i = d → i ≤ n → Inv i s → ∃ r, Ev (fun k => g k i s) r ∧ Post r := by
  induction d with
  | zero =>
    intro i s hd hi hs
    obtain rfl : i = n := by omega
    exact hend s hs
  | succ d ih =>
    intro i s hd hi hs
    rcases hstep i s (by omega) hs with h | ⟨s', hs', hg⟩
    · exact h
    · obtain ⟨r, hr, hp⟩ := ih (i + 1) s' (by omega) (by omega) hs'
      exact ⟨r, hg r hr, hp⟩
theorem succ_cast {i n : Nat} (h : i < n) (hn : n ≤ 9223372036854775806) : wrap64 ((i : Int) + 1) = ((i + 1 : Nat) : Int) := by
  rw [wrap_small (by omega) (by omega)]; omega
theorem drop_cons {α : Type} {l : List α} {i : Nat} (h : i < l.length) : l.drop i = l[i] :: l.drop (i + 1) := List.drop_eq_getElem_cons h
theorem rd_at {l : List Int} {i : Nat} (h : i < l.length) : rd l (i : Int) = l[i] := by simp [rd, h]
/-! #### fixed numbers -/
def fixB (a : Int) : Bool := inB a (-1099511627776) 1099511627776
theorem fixB_iff {a : Int} : fixB a = true ↔ -1099511627776 ≤ a ∧ a ≤ 1099511627776 := inB_iff
theorem spec_fix (a : Int) : spec_GoodFixed.f a = some (fixB a) := by unfold spec_GoodFixed.f; rw [spec_in]; rfl
theorem impl_fix (a : Int) : impl_GoodFixed.f a = some (fixB a) := by unfold impl_GoodFixed.f; rw [impl_in]; rfl
theorem impl_fixes_from (l : List Int) (hl : l.length ≤ 9223372036854775806) (d : Nat) : ∀ i : Nat, l.length - i = d → i ≤ l.length → Ev (fun k => impl_areFixed.l0 k l (l.length : Int) (i : Int)) ((l.drop i).all fixB) := by
  induction d with
  | zero =>
    intro i hd hi
    have e : l.drop i = [] := List.drop_eq_nil_of_le (by omega)
    have h1 : ¬ (i : Int) < (l.length : Int) := by omega
    rw [e]
    refine ev_succ ?_
    simp only [impl_areFixed.l0, if_neg h1]
    exact Ev.now _
  | succ d ih =>
    intro i hd hi
    have hlt : i < l.length := by omega
    have h1 : (i : Int) < (l.length : Int) := by omega
    have h2 : 0 ≤ (i : Int) := by omega
    have hs := succ_cast hlt hl
    rw [drop_cons hlt, List.all_cons]
    refine ev_succ ?_
    simp only [impl_areFixed.l0, if_pos h1, if_pos h2, impl_fix, rd_at hlt, hs, Option.bind_some]
    cases hb : fixB l[i] with
    | true =>
      simp only [if_true, Bool.true_and]
      exact ih (i + 1) (by omega) (by omega)
    | false =>
      simp only [Bool.false_eq_true, if_false, Bool.false_and]
      exact Ev.now _
theorem impl_fixes (l : List Int) (hl : l.length ≤ 9223372036854775806) : Ev (fun k => impl_areFixed.f k l) (l.all fixB) := by
  have := impl_fixes_from l hl l.length 0 (by omega) (by omega)
  rw [List.drop_zero] at this
  exact this
theorem spec_cos {a : Int} (h0 : -9223372036854775808 ≤ a) (h1 : a ≤ 9223372036854775807) : Ev (fun k => spec_CosOf.f k a) (sinV (a % 4096 + 1024)) := by
  refine ⟨3, fun k hk => ?_⟩
  obtain ⟨k, rfl⟩ : ∃ m, k = m + 3 := ⟨k - 3, by omega⟩
  unfold spec_CosOf.f
  rw [spec_mod4096 h0 h1]
  simp only [Option.bind_some]
  rw [wrap_small (by omega) (by omega), spec_sin (by omega) (by omega) k]
  rfl
theorem spec_sinE {a : Int} (h0 : -9223372036854775808 ≤ a) (h1 : a ≤ 9223372036854775807) : Ev (fun k => spec_SinOf.f k a) (sinV a) := by
  refine ⟨3, fun k hk => ?_⟩
  obtain ⟨k, rfl⟩ : ∃ m, k = m + 3 := ⟨k - 3, by omega⟩
  exact spec_sin h0 h1 k
theorem impl_cos {a : Int} (h0 : -9223372036854775808 ≤ a) (h1 : a ≤ 9223372036854775807) : impl_CosOf.f a = some (sinV (a % 4096 + 1024)) := by
  unfold impl_CosOf.f
  rw [impl_mod4096 h0 h1]
  simp only [Option.bind_some]
  rw [wrap_small (by omega) (by omega), impl_sin (by omega) (by omega)]
  rfl
def along (x y a : Int) : Int := wrap64 (wrap64 (x * sinV (a % 4096 + 1024)) + wrap64 (y * sinV a))
def seek (x y : Int) : Nat → Int → Int → Int → Int
  | 0, best, _, _ => best
  | d + 1, best, most, a => if along x y a > most then seek x y d a (along x y a) (a + 1) else seek x y d best most (a + 1)
theorem both_seek (x y : Int) (d : Nat) : ∀ best most a : Int, 0 ≤ a → (4096 - a).toNat = d → Ev (fun k => spec_AngleOf.l0 k x y best most a) (seek x y d best most a) ∧ Ev (fun k => impl_AngleOf.l0 k x y best most a) (seek x y d best most a) := by
  induction d with
  | zero =>
    intro best most a h0 hd
    have h1 : ¬ a < 4096 := by omega
    exact ⟨ev_succ (by simp only [spec_AngleOf.l0, if_neg h1]; exact Ev.now _), ev_succ (by simp only [impl_AngleOf.l0, if_neg h1]; exact Ev.now _)⟩
  | succ d ih =>
    intro best most a h0 hd
    have h1 : a < 4096 := by omega
    have hw : wrap64 (a + 1) = a + 1 := wrap_small (by omega) (by omega)
    have hc := spec_cos (a := a) (by omega) (by omega)
    have hs := spec_sinE (a := a) (by omega) (by omega)
    have ic := impl_cos (a := a) (by omega) (by omega)
    have is := impl_sin (a := a) (by omega) (by omega)
    unfold seek
    by_cases c : along x y a > most
    · rw [if_pos c]
      obtain ⟨k1, k2⟩ := ih a (along x y a) (a + 1) (by omega) (by omega)
      refine ⟨ev_succ ?_, ev_succ ?_⟩
      · simp only [spec_AngleOf.l0, if_pos h1]
        refine Ev.bind hc (Ev.bind hs ?_)
        change Ev (fun k => if along x y a > most then spec_AngleOf.l0 k x y a (along x y a) (wrap64 (a + 1)) else spec_AngleOf.l0 k x y best most (wrap64 (a + 1))) _
        simp only [if_pos c, hw]
        exact k1
      · simp only [impl_AngleOf.l0, if_pos h1, ic, is, Option.bind_some]
        change Ev (fun k => if along x y a > most then impl_AngleOf.l0 k x y a (along x y a) (wrap64 (a + 1)) else impl_AngleOf.l0 k x y best most (wrap64 (a + 1))) _
        simp only [if_pos c, hw]
        exact k2
    · rw [if_neg c]
      obtain ⟨k1, k2⟩ := ih best most (a + 1) (by omega) (by omega)
      refine ⟨ev_succ ?_, ev_succ ?_⟩
      · simp only [spec_AngleOf.l0, if_pos h1]
        refine Ev.bind hc (Ev.bind hs ?_)
        change Ev (fun k => if along x y a > most then spec_AngleOf.l0 k x y a (along x y a) (wrap64 (a + 1)) else spec_AngleOf.l0 k x y best most (wrap64 (a + 1))) _
        simp only [if_neg c, hw]
        exact k1
      · simp only [impl_AngleOf.l0, if_pos h1, ic, is, Option.bind_some]
        change Ev (fun k => if along x y a > most then impl_AngleOf.l0 k x y a (along x y a) (wrap64 (a + 1)) else impl_AngleOf.l0 k x y best most (wrap64 (a + 1))) _
        simp only [if_neg c, hw]
        exact k2
theorem both_j0 (x y : Int) (b : Bool) : Ev (fun k => spec_AngleOf.j0 k x y b) (if b = true then 0 else seek x y 4095 0 (along x y 0) 1) ∧ Ev (fun k => impl_AngleOf.j0 k x y b) (if b = true then 0 else seek x y 4095 0 (along x y 0) 1) := by
  cases b with
  | true => exact ⟨ev_succ (by simp only [spec_AngleOf.j0, if_true]; exact Ev.now _), ev_succ (by simp only [impl_AngleOf.j0, if_true]; exact Ev.now _)⟩
  | false =>
    obtain ⟨h1, h2⟩ := both_seek x y 4095 0 (along x y 0) 1 (by omega) (by omega)
    simp only [Bool.false_eq_true, if_false]
    refine ⟨ev_succ ?_, ev_succ ?_⟩
    · simp only [spec_AngleOf.j0, Bool.false_eq_true, if_false]
      exact Ev.bind (spec_cos (by omega) (by omega)) (Ev.bind (spec_sinE (by omega) (by omega)) h1)
    · simp only [impl_AngleOf.j0, Bool.false_eq_true, if_false, impl_cos (a := 0) (by omega) (by omega), impl_sin (a := 0) (by omega) (by omega), Option.bind_some]
      exact h2
theorem FnExactAngleOf : laws_FnExactAngleOf.Pure := by
  intro x y _ _
  apply Ev.rounds (r := true)
  unfold laws_FnExactAngleOf.f
  have fin : ∀ b : Bool, ∀ v : Int, Ev (fun k => spec_AngleOf.f k x y) v → Ev (fun k => impl_AngleOf.f k x y) v → Ev (fun k => (spec_AngleOf.f k x y).bind fun t135 => ((impl_AngleOf.f k x y).bind fun t136 => (if t136 = t135 then (some true) else (some false)))) true := fun _ v h1 h2 => by
    refine Ev.bind h1 (Ev.bind h2 ?_)
    simp only [if_true]
    exact Ev.now true
  have hl := impl_fixes [x, y] (by simp)
  simp only [List.all_cons, List.all_nil, Bool.and_true] at hl
  have hi : ∀ v : Int, Ev (fun k => (if (fixB x && fixB y) = true then (if x = 0 then (impl_AngleOf.j0 k x y (y == 0)) else (impl_AngleOf.j0 k x y false)) else (impl_AngleOf.j0 k x y true))) v → Ev (fun k => impl_AngleOf.f k x y) v := fun v h => by
    unfold impl_AngleOf.f
    exact Ev.bind hl h
  have hs : ∀ v : Int, Ev (fun k => (if (fixB x && fixB y) = true then (if x = 0 then (spec_AngleOf.j0 k x y (y == 0)) else (spec_AngleOf.j0 k x y false)) else (spec_AngleOf.j0 k x y true))) v → Ev (fun k => spec_AngleOf.f k x y) v := fun v h => by
    unfold spec_AngleOf.f
    simp only [spec_fix, Option.bind_some]
    cases hx : fixB x <;> cases hy : fixB y <;> simp only [hx, hy, Bool.false_and, Bool.true_and, Bool.and_false, Bool.false_eq_true, if_false, if_true] at h ⊢ <;> exact h
  cases hxy : (fixB x && fixB y) with
  | false =>
    simp only [hxy, Bool.false_eq_true, if_false] at hi hs
    exact fin true _ (hs _ (both_j0 x y true).1) (hi _ (both_j0 x y true).2)
  | true =>
    simp only [hxy, if_true] at hi hs
    by_cases h0 : x = 0
    · simp only [if_pos h0] at hi hs
      exact fin true _ (hs _ (both_j0 x y _).1) (hi _ (both_j0 x y _).2)
    · simp only [if_neg h0] at hi hs
      exact fin true _ (hs _ (both_j0 x y _).1) (hi _ (both_j0 x y _).2)
end Go.Proofs.Ytmkmomcpbkogiaa.Pure
