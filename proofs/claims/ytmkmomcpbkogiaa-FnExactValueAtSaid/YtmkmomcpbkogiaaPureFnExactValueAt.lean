/- The program's ValueAt and the reference's answer alike at every keys and frame. No condition. -/
import Derived.Test.YtmkmomcpbkogiaaPFnExactValueAtx3
namespace Go.Proofs.Ytmkmomcpbkogiaa.Pure
open Go.RowKit Go.Proofs.Ytmkmomcpbkogiaa.PFnExactValueAt Go.Proofs.YtmkmomcpbkogiaaW.PrintWords Go.Proofs.YtmkmomcpbkogiaaW.PrintLast Go.Proofs.YtmkmomcpbkogiaaW.PrintMore
set_option linter.unusedVariables false
set_option linter.unusedSimpArgs false
/-- What can be read as a datum of type 108. -/
def Good108 (x : S108) : Prop := (Lit.int .i64 x.f0).wf = true ∧ (Lit.int .i64 x.f1).wf = true
/-- The one pure statement. -/
def laws_FnExactValueAt_Pure : Prop := ∀ (l0 : (List S108)) (a1 : Int), (List.length l0 ≤ maxLen ∧ List.length l0 * 16 ≤ 140737488351232 ∧ ∀ y ∈ l0, Good108 y) → (Lit.int .i64 a1).wf = true → ∃ k, laws_FnExactValueAt.f k l0 a1 = some true
/-! #### whole numbers: wraps, quotients towards nought -/
theorem wrap_small {i : Int} (h0 : -9223372036854775808 ≤ i) (h1 : i ≤ 9223372036854775807) : wrap64 i = i := by unfold wrap64; omega
theorem tdiv_pos {a b : Int} (ha : 0 ≤ a) : Int.tdiv a b = a / b := Int.tdiv_eq_ediv_of_nonneg ha
theorem tmod_pos {a b : Int} (ha : 0 ≤ a) : Int.tmod a b = a % b := Int.tmod_eq_emod_of_nonneg ha
theorem tdiv_neg' {a b : Int} (ha : a < 0) : Int.tdiv a b = -((-a) / b) := by
  rw [← Int.tdiv_eq_ediv_of_nonneg (a := -a) (by omega), Int.neg_tdiv, Int.neg_neg]
theorem tmod_neg' {a b : Int} (ha : a < 0) : Int.tmod a b = -((-a) % b) := by
  rw [← Int.tmod_eq_emod_of_nonneg (a := -a) (by omega), Int.neg_tmod, Int.neg_neg]
theorem wf64 {a : Int} (h : (Lit.int .i64 a).wf = true) : -9223372036854775808 ≤ a ∧ a ≤ 9223372036854775807 := by
  simp [Lit.wf, IntKind.min, IntKind.max, IntKind.signed, IntKind.bits] at h
  omega
theorem ev_succ {α : Type} {g : Nat → Option α} {r : α} (h : Ev (fun k => g (k + 1)) r) : Ev g r := Ev.step (f := fun k => g (k + 1)) (fun _ => rfl) h
theorem ev_eq {α : Type} {g : Nat → Option α} {r : α} (h : ∀ k, g k = some r) : Ev g r := ⟨0, fun k _ => h k⟩
theorem ev_val {α : Type} {g : Nat → Option α} {r r' : α} (h : Ev g r) (e : r = r') : Ev g r' := e ▸ h
/-! #### is a number in a span -/
def inB (a b c : Int) : Bool := decide (b ≤ a ∧ a ≤ c)
theorem inB_iff {a b c : Int} : inB a b c = true ↔ b ≤ a ∧ a ≤ c := by unfold inB; rw [decide_eq_true_eq]
theorem spec_in (a b c : Int) : spec_l1In.f a b c = some (inB a b c) := by
  unfold spec_l1In.f inB
  by_cases h : a ≥ b
  · rw [if_pos h]; congr 1; rw [decide_eq_decide]; omega
  · rw [if_neg h]; congr 1; exact (decide_eq_false (by omega)).symm
theorem impl_in (a b c : Int) : impl_inRange.f a b c = some (inB a b c) := by
  unfold impl_inRange.f inB
  by_cases h : b ≤ a
  · rw [if_pos h]; congr 1; rw [decide_eq_decide]; omega
  · rw [if_neg h]; congr 1; exact (decide_eq_false (by omega)).symm
/-! #### loops that go up, from a place on -/
theorem Ev_up {σ ρ : Type} (g : Nat → Nat → σ → Option ρ) (n : Nat) (Inv : Nat → σ → Prop) (Post : ρ → Prop)
    (hend : ∀ s, Inv n s → ∃ r, Ev (fun k => g k n s) r ∧ Post r)
    (hstep : ∀ i s, i < n → Inv i s → (∃ r, Ev (fun k => g k i s) r ∧ Post r) ∨ (∃ s', Inv (i + 1) s' ∧ ∀ r, Ev (fun k => g k (i + 1) s') r → Ev (fun k => g k i s) r))
    (d : Nat) : ∀ i s, n - i = d → i ≤ n → Inv i s → ∃ r, Ev (fun k => g k i s) r ∧ Post r := by
  induction d with
  | zero =>
    intro i s hd hi hs
    obtain rfl : i = n := by omega
    exact hend s hs
  | succ d ih =>
    intro i s hd hi hs
    rcases hstep i s (by omega) hs with h | ⟨s', hs', hg⟩
    · exact h
    · obtain ⟨r, hr, hp⟩ := ih (i + 1) s' (by omega) (by omega) hs'
      exact ⟨r, hg r hr, hp⟩
theorem succ_cast {i n : Nat} (h : i < n) (hn : n ≤ 9223372036854775806) : wrap64 ((i : Int) + 1) = ((i + 1 : Nat) : Int) := by
  rw [wrap_small (by omega) (by omega)]; omega
theorem drop_cons {α : Type} {l : List α} {i : Nat} (h : i < l.length) : l.drop i = l[i] :: l.drop (i + 1) := List.drop_eq_getElem_cons h
theorem rd_at {l : List Int} {i : Nat} (h : i < l.length) : rd l (i : Int) = l[i] := by simp [rd, h]
/-! #### loops that copy and loops that compare -/
theorem set_step {α β : Type} (g : α → β) (z : β) (l : List α) (i : Nat) (hi : i < l.length) : ((l.take i).map g ++ List.replicate (l.length - i) z).set i (g l[i]) = (l.take (i + 1)).map g ++ List.replicate (l.length - (i + 1)) z := by
  have e : l.length - i = (l.length - (i + 1)) + 1 := by omega
  have hl : ((l.take i).map g).length = i := by rw [List.length_map, List.length_take]; omega
  rw [e, List.replicate_succ, List.set_append_right _ _ (by omega), hl, Nat.sub_self, List.set_cons_zero, List.take_succ_eq_append_getElem hi, List.map_append, List.append_assoc]
  rfl
/-- A loop that sets each place of a fresh list. -/
theorem ev_map {α β : Type} (l : List α) (z : β) (g : α → β) (F : Nat → List β → Int → Option (List β)) (G : Nat → α → Option β) (hG : ∀ i (hi : i < l.length), Ev (fun k => G k l[i]) (g l[i]))
    (hstep : ∀ k (x : List β) (i : Nat) (hi : i < l.length), x.length = l.length → F (k + 1) x (i : Int) = (G k l[i]).bind fun v => F k (x.set i v) ((i + 1 : Nat) : Int))
    (hend : ∀ k (x : List β), F (k + 1) x (l.length : Int) = some x) : Ev (fun k => F k (List.replicate l.length z) 0) (l.map g) := by
  have main : ∀ d i, l.length - i = d → i ≤ l.length → Ev (fun k => F k ((l.take i).map g ++ List.replicate (l.length - i) z) (i : Int)) (l.map g) := by
    intro d
    induction d with
    | zero =>
      intro i hd hi
      obtain rfl : i = l.length := by omega
      refine ev_succ ?_
      simp only [hend, Nat.sub_self, List.replicate_zero, List.append_nil, List.take_length]
      exact Ev.now _
    | succ d ih =>
      intro i hd hi
      have hlt : i < l.length := by omega
      refine ev_succ ?_
      have hx : ((l.take i).map g ++ List.replicate (l.length - i) z).length = l.length := by
        rw [List.length_append, List.length_map, List.length_take, List.length_replicate]; omega
      simp only [hstep _ _ i hlt hx]
      refine Ev.bind (hG i hlt) ?_
      simp only [set_step g z l i hlt]
      exact ih (i + 1) (by omega) (by omega)
  have := main l.length 0 (by omega) (by omega)
  simp only [List.take_zero, List.map_nil, List.nil_append, Nat.sub_zero] at this
  exact this
/-- A loop that asks each place, and every place answers true. -/
theorem ev_trues {n : Nat} (F : Nat → Int → Option Bool) (G : Nat → Nat → Option Bool) (hG : ∀ i, i < n → Ev (fun k => G k i) true)
    (hstep : ∀ k (i : Nat), i < n → F (k + 1) (i : Int) = (G k i).bind fun t => if t = true then F k ((i + 1 : Nat) : Int) else some false)
    (hend : ∀ k, F (k + 1) (n : Int) = some true) : Ev (fun k => F k 0) true := by
  have main : ∀ d i, n - i = d → i ≤ n → Ev (fun k => F k (i : Int)) true := by
    intro d
    induction d with
    | zero =>
      intro i hd hi
      obtain rfl : i = n := by omega
      refine ev_succ ?_
      simp only [hend]
      exact Ev.now _
    | succ d ih =>
      intro i hd hi
      refine ev_succ ?_
      simp only [hstep _ i (show i < n by omega)]
      refine Ev.bind (hG i (by omega)) ?_
      simp only [if_true]
      exact ih (i + 1) (by omega) (by omega)
  exact main n 0 (by omega) (by omega)
theorem toNat_cast (i : Nat) : ((i : Int)).toNat = i := Int.toNat_natCast i
theorem ediv_of {x d q r : Int} (hd : 0 < d) (h : x = d * q + r) (r0 : 0 ≤ r) (r1 : r < d) : x / d = q := by
  rw [h, Int.add_comm, Int.add_mul_ediv_left _ _ (by omega), Int.ediv_eq_zero_of_lt r0 r1, Int.zero_add]
/-! #### quotients rounded down -/
theorem impl_floor {a b : Int} (hb : 0 < b) (h0 : -9223372036854775807 ≤ a) (h1 : a ≤ 9223372036854775807) : impl_down.f a b = some (a / b) := by
  unfold impl_down.f
  rw [if_neg (by omega)]
  by_cases hs : 0 ≤ a
  · have hm : 0 ≤ Int.tmod a b := Int.tmod_nonneg _ hs
    have hq0 : 0 ≤ a / b := Int.ediv_nonneg hs (by omega)
    have hq1 : a / b ≤ a := Int.ediv_le_self b hs
    rw [if_neg (by omega), tdiv_pos hs, wrap_small (by omega) (by omega)]
  · have ha : 0 ≤ -a := by omega
    have hq0 : 0 ≤ (-a) / b := Int.ediv_nonneg ha (by omega)
    have hq1 : (-a) / b ≤ -a := Int.ediv_le_self b ha
    have hr0 : 0 ≤ (-a) % b := Int.emod_nonneg _ (by omega)
    have hr1 : (-a) % b < b := Int.emod_lt_of_pos _ hb
    have hdm : b * ((-a) / b) + (-a) % b = -a := Int.mul_ediv_add_emod (-a) b
    rw [tmod_neg' (by omega), tdiv_neg' (by omega)]
    generalize hq : (-a) / b = q at *
    generalize hr : (-a) % b = r at *
    by_cases c : -r < 0
    · rw [if_pos c, wrap_small (i := -q) (by omega) (by omega), wrap_small (by omega) (by omega)]
      congr 1
      refine (ediv_of hb (q := -q - 1) (r := b - r) ?_ (by omega) (by omega)).symm
      rw [Int.mul_sub, Int.mul_neg, Int.mul_one]; omega
    · rw [if_neg c, wrap_small (i := -q) (by omega) (by omega)]
      congr 1
      refine (ediv_of hb (q := -q) (r := 0) ?_ (by omega) (by omega)).symm
      rw [Int.mul_neg]; omega
def keyOf (x : S108) : S106 := ⟨x.f0, x.f1⟩
theorem rd108 {l : List S108} {i : Nat} (h : i < l.length) : rd_T108 l (i : Int) = l[i] := by simp [rd_T108, h]
theorem rd106 {l : List S106} {i : Nat} (h : i < l.length) : rd_T106 l (i : Int) = l[i] := by simp [rd_T106, h]
theorem to_keys (l : List S108) (hl : l.length ≤ 17592186044416) : Ev (fun k => laws_toKeyS.f k l) (l.map keyOf) := by
  unfold laws_toKeyS.f
  simp only [if_pos (show (0 : Int) ≤ (l.length : Int) by omega), toNat_cast, if_pos hl]
  refine ev_map l z106 keyOf (fun k x i => laws_toKeyS.l0 k l x i) (fun _ x => some (keyOf x)) (fun _ _ => Ev.now _) ?_ ?_
  · intro k x i hi hx
    simp only [laws_toKeyS.l0, if_pos (show (i : Int) < (l.length : Int) by omega), if_pos (show (0 : Int) ≤ (i : Int) by omega), laws_toKey.f, Option.bind_some, if_pos (show (i : Int) < (x.length : Int) by omega), rd108 hi, toNat_cast, succ_cast hi (by omega)]
    rfl
  · intro k x
    simp only [laws_toKeyS.l0, if_neg (show ¬ (l.length : Int) < (l.length : Int) by omega)]
theorem eq_keys (l : List S106) (hl : l.length ≤ 17592186044416) : Ev (fun k => laws_eqKeyS.f k l l) true := by
  unfold laws_eqKeyS.f
  simp only [if_true]
  refine ev_trues (n := l.length) (fun k i => laws_eqKeyS.l0 k l l i) (fun _ _ => some true) (fun _ _ => Ev.now _) ?_ ?_
  · intro k i hi
    simp only [laws_eqKeyS.l0, if_pos (show (i : Int) < (l.length : Int) by omega), if_pos (show (0 : Int) ≤ (i : Int) by omega), laws_eqKey.f, if_true, Option.bind_some, rd106 hi, succ_cast hi (by omega)]
  · intro k
    simp only [laws_eqKeyS.l0, if_neg (show ¬ (l.length : Int) < (l.length : Int) by omega)]
/-- The key at a place is good, and later than the one before it. -/
def okAt (l : List S106) (i : Nat) : Bool := inB (l.getD i z106).f0 0 59 && inB (l.getD i z106).f1 (-100000) 100000 && (decide (i = 0) || decide ((l.getD (i - 1) z106).f0 < (l.getD i z106).f0))
def okFrom (l : List S106) : Nat → Nat → Bool
  | 0, _ => true
  | d + 1, i => okAt l i && okFrom l d (i + 1)
theorem getD_at {l : List S106} {i : Nat} (h : i < l.length) : l.getD i z106 = l[i] := by simp [h]
theorem spec_keys_from (l : List S106) (hl : l.length ≤ 17592186044416) (d : Nat) : ∀ i : Nat, l.length - i = d → i ≤ l.length → Ev (fun k => spec_l11Keys.l0 k l 60 l (l.length : Int) (i : Int)) (okFrom l d i) := by
  induction d with
  | zero =>
    intro i hd hi
    refine ev_succ ?_
    simp only [spec_l11Keys.l0, if_neg (show ¬ (i : Int) < (l.length : Int) by omega)]
    exact Ev.now _
  | succ d ih =>
    intro i hd hi
    have hlt : i < l.length := by omega
    refine ev_succ ?_
    unfold okFrom okAt
    simp only [spec_l11Keys.l0, if_pos (show (i : Int) < (l.length : Int) by omega), if_pos (show (0 : Int) ≤ (i : Int) by omega), rd106 hlt, spec_l11Value.f, spec_in, Option.bind_some, getD_at hlt, succ_cast hlt (by omega), show wrap64 (60 - 1) = 59 from by unfold wrap64; omega]
    cases inB l[i].f0 0 59 with
    | false => simp only [Bool.false_eq_true, if_false, Bool.false_and]; exact Ev.now _
    | true =>
      cases inB l[i].f1 (-100000) 100000 with
      | false => simp only [if_true, Bool.false_eq_true, if_false, Bool.false_and, Bool.and_false]; exact Ev.now _
      | true =>
        simp only [if_true, Bool.true_and]
        have ihn := ih (i + 1) (by omega) (by omega)
        by_cases c0 : i = 0
        · subst c0
          simp only [if_neg (show ¬ ((0 : Nat) : Int) > 0 by omega), decide_true, Bool.true_or, Bool.true_and]
          exact ihn
        · have e1 : wrap64 ((i : Int) - 1) = ((i - 1 : Nat) : Int) := by rw [wrap_small (by omega) (by omega)]; omega
          have h1 : i - 1 < l.length := by omega
          simp only [if_pos (show (i : Int) > 0 by omega), e1, if_pos (show (0 : Int) ≤ ((i - 1 : Nat) : Int) by omega), if_pos (show ((i - 1 : Nat) : Int) < (l.length : Int) by omega), rd106 h1, getD_at h1, decide_eq_false c0, Bool.false_or]
          by_cases c1 : l[i - 1].f0 ≥ l[i].f0
          · simp only [if_pos c1, decide_eq_false (show ¬ l[i - 1].f0 < l[i].f0 by omega), Bool.false_and]
            exact Ev.now _
          · simp only [if_neg c1, decide_eq_true (show l[i - 1].f0 < l[i].f0 by omega), Bool.true_and]
            exact ihn
theorem impl_keys_from (l : List S106) (hl : l.length ≤ 17592186044416) (d : Nat) : ∀ i : Nat, l.length - i = d → i ≤ l.length → Ev (fun k => impl_areKeys.l0 k l 60 l (l.length : Int) (i : Int)) (okFrom l d i && inB (l.length : Int) 1 60) := by
  induction d with
  | zero =>
    intro i hd hi
    refine ev_succ ?_
    simp only [impl_areKeys.l0, if_neg (show ¬ (i : Int) < (l.length : Int) by omega), impl_in, Option.bind_some, okFrom, Bool.true_and]
    exact Ev.now _
  | succ d ih =>
    intro i hd hi
    have hlt : i < l.length := by omega
    refine ev_succ ?_
    unfold okFrom okAt
    simp only [impl_areKeys.l0, if_pos (show (i : Int) < (l.length : Int) by omega), if_pos (show (0 : Int) ≤ (i : Int) by omega), rd106 hlt, impl_isKeyValue.f, impl_in, Option.bind_some, getD_at hlt, succ_cast hlt (by omega), show wrap64 (60 - 1) = 59 from by unfold wrap64; omega]
    cases inB l[i].f0 0 59 with
    | false => simp only [Bool.false_eq_true, if_false, Bool.false_and]; exact Ev.now _
    | true =>
      cases inB l[i].f1 (-100000) 100000 with
      | false => simp only [if_true, Bool.false_eq_true, if_false, Bool.false_and, Bool.and_false]; exact Ev.now _
      | true =>
        simp only [if_true, Bool.true_and]
        have ihn := ih (i + 1) (by omega) (by omega)
        by_cases c0 : i = 0
        · subst c0
          simp only [if_neg (show ¬ ((0 : Nat) : Int) > 0 by omega), decide_true, Bool.true_or, Bool.true_and]
          exact ihn
        · have e1 : wrap64 ((i : Int) - 1) = ((i - 1 : Nat) : Int) := by rw [wrap_small (by omega) (by omega)]; omega
          have h1 : i - 1 < l.length := by omega
          simp only [if_pos (show (i : Int) > 0 by omega), e1, if_pos (show (0 : Int) ≤ ((i - 1 : Nat) : Int) by omega), if_pos (show ((i - 1 : Nat) : Int) < (l.length : Int) by omega), rd106 h1, getD_at h1, decide_eq_false c0, Bool.false_or]
          by_cases c1 : l[i - 1].f0 ≥ l[i].f0
          · simp only [if_pos c1, decide_eq_false (show ¬ l[i - 1].f0 < l[i].f0 by omega), Bool.false_and]
            exact Ev.now _
          · simp only [if_neg c1, decide_eq_true (show l[i - 1].f0 < l[i].f0 by omega), Bool.true_and]
            exact ihn
def keysB (l : List S106) : Bool := okFrom l l.length 0 && inB (l.length : Int) 1 60
theorem spec_keys (l : List S106) (hl : l.length ≤ 17592186044416) : Ev (fun k => spec_l11Keys.f k l 60) (keysB l) := by
  unfold spec_l11Keys.f keysB
  by_cases c0 : (l.length : Int) < 1
  · have e : inB (l.length : Int) 1 60 = false := Bool.eq_false_iff.2 (fun hh => by have := inB_iff.1 hh; omega)
    simp only [if_pos c0, e, Bool.and_false]
    refine ev_succ ?_
    simp only [spec_l11Keys.j0, if_true]
    exact Ev.now _
  · simp only [if_neg c0]
    by_cases c1 : (l.length : Int) > 60
    · have e : inB (l.length : Int) 1 60 = false := Bool.eq_false_iff.2 (fun hh => by have := inB_iff.1 hh; omega)
      simp only [decide_eq_true c1, e, Bool.and_false]
      refine ev_succ ?_
      simp only [spec_l11Keys.j0, if_true]
      exact Ev.now _
    · have e : inB (l.length : Int) 1 60 = true := inB_iff.2 (by omega)
      simp only [decide_eq_false c1, e, Bool.and_true]
      refine ev_succ ?_
      simp only [spec_l11Keys.j0, Bool.false_eq_true, if_false]
      exact spec_keys_from l hl l.length 0 (by omega) (by omega)
theorem impl_keys (l : List S106) (hl : l.length ≤ 17592186044416) : Ev (fun k => impl_areKeys.f k l 60) (keysB l) := impl_keys_from l hl l.length 0 (by omega) (by omega)
theorem okFrom_at (l : List S106) (d : Nat) : ∀ i, okFrom l d i = true → ∀ j, i ≤ j → j < i + d → okAt l j = true := by
  induction d with
  | zero => intro i _ j h1 h2; omega
  | succ d ih =>
    intro i h j h1 h2
    unfold okFrom at h
    obtain ⟨ha, hb⟩ := Bool.and_eq_true_iff.1 h
    by_cases c : j = i
    · rw [c]; exact ha
    · exact ih (i + 1) hb j (by omega) (by omega)
theorem keys_at {l : List S106} (h : keysB l = true) {j : Nat} (hj : j < l.length) : (0 ≤ l[j].f0 ∧ l[j].f0 ≤ 59) ∧ (-100000 ≤ l[j].f1 ∧ l[j].f1 ≤ 100000) ∧ (∀ h0 : j ≠ 0, (l[j - 1]'(by omega)).f0 < l[j].f0) := by
  have h1 := okFrom_at l l.length 0 (Bool.and_eq_true_iff.1 h).1 j (by omega) (by omega)
  unfold okAt at h1
  rw [getD_at hj] at h1
  obtain ⟨h2, h3⟩ := Bool.and_eq_true_iff.1 h1
  obtain ⟨h4, h5⟩ := Bool.and_eq_true_iff.1 h2
  refine ⟨inB_iff.1 h4, inB_iff.1 h5, fun h0 => ?_⟩
  rw [getD_at (show j - 1 < l.length by omega)] at h3
  simpa [h0] using h3
theorem spec_floor {a b : Int} (hb : 0 < b) (h0 : -9223372036854775807 ≤ a) (h1 : a ≤ 9223372036854775807) : spec_l1Down.f a b = some (a / b) := by
  unfold spec_l1Down.f
  rw [if_neg (by omega)]
  by_cases hs : 0 ≤ a
  · have hm : 0 ≤ Int.tmod a b := Int.tmod_nonneg _ hs
    have hq0 : 0 ≤ a / b := Int.ediv_nonneg hs (by omega)
    have hq1 : a / b ≤ a := Int.ediv_le_self b hs
    have e : ((decide (a < 0)) != (decide (b < 0))) = false := by rw [decide_eq_false (show ¬ a < 0 by omega), decide_eq_false (show ¬ b < 0 by omega)]; rfl
    rw [e, tdiv_pos hs, wrap_small (by omega) (by omega)]
    split <;> rfl
  · have ha : 0 ≤ -a := by omega
    have hq0 : 0 ≤ (-a) / b := Int.ediv_nonneg ha (by omega)
    have hq1 : (-a) / b ≤ -a := Int.ediv_le_self b ha
    have hr0 : 0 ≤ (-a) % b := Int.emod_nonneg _ (by omega)
    have hr1 : (-a) % b < b := Int.emod_lt_of_pos _ hb
    have hdm : b * ((-a) / b) + (-a) % b = -a := Int.mul_ediv_add_emod (-a) b
    have e : ((decide (a < 0)) != (decide (b < 0))) = true := by rw [decide_eq_true (show a < 0 by omega), decide_eq_false (show ¬ b < 0 by omega)]; rfl
    rw [e, tmod_neg' (by omega), tdiv_neg' (by omega)]
    generalize hq : (-a) / b = q at *
    generalize hr : (-a) % b = r at *
    by_cases c : -r = 0
    · rw [if_pos c, wrap_small (i := -q) (by omega) (by omega)]
      congr 1
      refine (ediv_of hb (q := -q) (r := 0) ?_ (by omega) (by omega)).symm
      rw [Int.mul_neg]; omega
    · rw [if_neg c, if_pos rfl, wrap_small (i := -q) (by omega) (by omega), wrap_small (by omega) (by omega)]
      congr 1
      refine (ediv_of hb (q := -q - 1) (r := b - r) ?_ (by omega) (by omega)).symm
      rw [Int.mul_sub, Int.mul_neg, Int.mul_one]; omega
theorem mul_bd {x y : Int} (x0 : -200000 ≤ x) (x1 : x ≤ 200000) (y0 : 0 ≤ y) (y1 : y ≤ 1000) : -200000000 ≤ x * y ∧ x * y ≤ 200000000 := by
  constructor
  · have := Int.mul_le_mul_of_nonneg_right x0 y0; omega
  · have := Int.mul_le_mul_of_nonneg_right x1 y0; omega
/-- The value on the line from one key to the next. -/
def onV (a b : S106) (t : Int) : Int := a.f1 + (b.f1 - a.f1) * (t - a.f0) / (b.f0 - a.f0)
theorem on_bd {a b : S106} {t : Int} (ha : -100000 ≤ a.f1 ∧ a.f1 ≤ 100000) (hb : -100000 ≤ b.f1 ∧ b.f1 ≤ 100000) (ta : 0 ≤ a.f0 ∧ a.f0 ≤ 59) (tb : 0 ≤ b.f0 ∧ b.f0 ≤ 59) (h : a.f0 < b.f0) (t0 : a.f0 ≤ t) (t1 : t ≤ 59) :
    -200000000 ≤ (b.f1 - a.f1) * (t - a.f0) ∧ (b.f1 - a.f1) * (t - a.f0) ≤ 200000000 ∧ -200000000 ≤ (b.f1 - a.f1) * (t - a.f0) / (b.f0 - a.f0) ∧ (b.f1 - a.f1) * (t - a.f0) / (b.f0 - a.f0) ≤ 200000000 := by
  have m := mul_bd (x := b.f1 - a.f1) (y := t - a.f0) (by omega) (by omega) (by omega) (by omega)
  generalize (b.f1 - a.f1) * (t - a.f0) = p at *
  generalize hd : b.f0 - a.f0 = d at *
  have d0 : 0 < d := by omega
  have e := Int.mul_ediv_add_emod p d
  have r0 := Int.emod_nonneg p (show d ≠ 0 by omega)
  have r1 := Int.emod_lt_of_pos p d0
  refine ⟨m.1, m.2, ?_, ?_⟩
  · exact (Int.le_ediv_iff_mul_le d0).2 (by have := Int.mul_le_mul_of_nonneg_left (show (1 : Int) ≤ d by omega) (show (0 : Int) ≤ 200000000 by decide); omega)
  · exact Int.le_trans (Int.ediv_le_ediv d0 m.2) (Int.ediv_le_self d (by decide))
/-- The value at a frame, found from a place on. -/
def valFrom (l : List S106) (t : Int) : Nat → Nat → Int
  | 0, _ => (l.getD (l.length - 1) z106).f1
  | d + 1, i => if t ≤ (l.getD i z106).f0 then onV (l.getD (i - 1) z106) (l.getD i z106) t else valFrom l t d (i + 1)
def valV (l : List S106) (t : Int) : Int := if t ≤ (l.getD 0 z106).f0 then (l.getD 0 z106).f1 else valFrom l t (l.length - 1) 1
theorem spec_at_from (l : List S106) (hk : keysB l = true) (t : Int) (t1 : t ≤ 59) (d : Nat) : ∀ i : Nat, l.length - i = d → i ≤ l.length → 1 ≤ i → (∀ h : i - 1 < l.length, l[i - 1].f0 < t) → Ev (fun k => spec_l11At.l0 k l t (i : Int)) (valFrom l t d i) := by
  have hn := inB_iff.1 (Bool.and_eq_true_iff.1 hk).2
  induction d with
  | zero =>
    intro i hd hi h1 hb
    have e1 : wrap64 ((l.length : Int) - 1) = ((l.length - 1 : Nat) : Int) := by rw [wrap_small (by omega) (by omega)]; omega
    have hlt : l.length - 1 < l.length := by omega
    refine ev_succ ?_
    simp only [spec_l11At.l0, if_neg (show ¬ (i : Int) < (l.length : Int) by omega), e1, if_pos (show (0 : Int) ≤ ((l.length - 1 : Nat) : Int) by omega), if_pos (show ((l.length - 1 : Nat) : Int) < (l.length : Int) by omega), rd106 hlt, valFrom, getD_at hlt]
    exact Ev.now _
  | succ d ih =>
    intro i hd hi h1 hb
    have hlt : i < l.length := by omega
    have hlt1 : i - 1 < l.length := by omega
    have e1 : wrap64 ((i : Int) - 1) = ((i - 1 : Nat) : Int) := by rw [wrap_small (by omega) (by omega)]; omega
    have ka := keys_at hk hlt1
    have kb := keys_at hk hlt
    have hb1 := hb hlt1
    have hab := kb.2.2 (by omega)
    refine ev_succ ?_
    simp only [spec_l11At.l0, if_pos (show (i : Int) < (l.length : Int) by omega), e1, if_pos (show (0 : Int) ≤ ((i - 1 : Nat) : Int) by omega), if_pos (show ((i - 1 : Nat) : Int) < (l.length : Int) by omega), if_pos (show (0 : Int) ≤ (i : Int) by omega), rd106 hlt, rd106 hlt1, valFrom, getD_at hlt, getD_at hlt1]
    by_cases c : t ≤ l[i].f0
    · have bd := on_bd ka.2.1 kb.2.1 ka.1 kb.1 hab (show l[i - 1].f0 ≤ t by omega) t1
      have b1 := ka.2.1
      have b2 := kb.2.1
      have b3 := ka.1
      have b4 := kb.1
      have e2 : wrap64 (l[i].f1 - l[i - 1].f1) = l[i].f1 - l[i - 1].f1 := wrap_small (by omega) (by omega)
      have e3 : wrap64 (t - l[i - 1].f0) = t - l[i - 1].f0 := wrap_small (by omega) (by omega)
      have e4 : wrap64 (l[i].f0 - l[i - 1].f0) = l[i].f0 - l[i - 1].f0 := wrap_small (by omega) (by omega)
      have e5 : wrap64 ((l[i].f1 - l[i - 1].f1) * (t - l[i - 1].f0)) = (l[i].f1 - l[i - 1].f1) * (t - l[i - 1].f0) := wrap_small (by omega) (by omega)
      have e6 := spec_floor (a := (l[i].f1 - l[i - 1].f1) * (t - l[i - 1].f0)) (b := l[i].f0 - l[i - 1].f0) (by omega) (by omega) (by omega)
      have e7 : wrap64 (l[i - 1].f1 + (l[i].f1 - l[i - 1].f1) * (t - l[i - 1].f0) / (l[i].f0 - l[i - 1].f0)) = onV l[i - 1] l[i] t := by unfold onV; exact wrap_small (by omega) (by omega)
      simp only [if_pos c, e2, e3, e4, e5, e6, Option.bind_some, e7]
      exact Ev.now _
    · simp only [if_neg c, succ_cast hlt (by omega)]
      exact ih (i + 1) (by omega) (by omega) (by omega) (fun h => by
        have : i + 1 - 1 = i := by omega
        simp only [this]; omega)
theorem spec_at (l : List S106) (hk : keysB l = true) (t : Int) (t1 : t ≤ 59) : Ev (fun k => spec_l11At.f k l t) (valV l t) := by
  have hn := inB_iff.1 (Bool.and_eq_true_iff.1 hk).2
  have h0 : 0 < l.length := by omega
  have e0 : rd_T106 l 0 = l[0] := rd106 h0
  unfold spec_l11At.f valV
  simp only [if_pos (show (0 : Int) < (l.length : Int) by omega), e0, getD_at h0]
  by_cases c : t ≤ l[0].f0
  · simp only [if_pos c]; exact Ev.now _
  · simp only [if_neg c]
    exact spec_at_from l hk t t1 (l.length - 1) 1 rfl (by omega) (by omega) (fun h => by
      have e : 1 - 1 = 0 := rfl
      simp only [e]; omega)
theorem impl_at_from (l : List S106) (hk : keysB l = true) (t : Int) (t1 : t ≤ 59) (d : Nat) : ∀ i : Nat, l.length - i = d → i ≤ l.length → 1 ≤ i → (∀ h : i - 1 < l.length, l[i - 1].f0 < t) → Ev (fun k => impl_valueAt.l0 k l t l (l.length : Int) (i : Int)) (valFrom l t d i) := by
  have hn := inB_iff.1 (Bool.and_eq_true_iff.1 hk).2
  induction d with
  | zero =>
    intro i hd hi h1 hb
    have e1 : wrap64 ((l.length : Int) - 1) = ((l.length - 1 : Nat) : Int) := by rw [wrap_small (by omega) (by omega)]; omega
    have hlt : l.length - 1 < l.length := by omega
    refine ev_succ ?_
    simp only [impl_valueAt.l0, if_neg (show ¬ (i : Int) < (l.length : Int) by omega), e1, if_pos (show (0 : Int) ≤ ((l.length - 1 : Nat) : Int) by omega), if_pos (show ((l.length - 1 : Nat) : Int) < (l.length : Int) by omega), rd106 hlt, valFrom, getD_at hlt]
    exact Ev.now _
  | succ d ih =>
    intro i hd hi h1 hb
    have hlt : i < l.length := by omega
    have hlt1 : i - 1 < l.length := by omega
    have e1 : wrap64 ((i : Int) - 1) = ((i - 1 : Nat) : Int) := by rw [wrap_small (by omega) (by omega)]; omega
    have ka := keys_at hk hlt1
    have kb := keys_at hk hlt
    have hb1 := hb hlt1
    have hab := kb.2.2 (by omega)
    refine ev_succ ?_
    simp only [impl_valueAt.l0, if_pos (show (i : Int) < (l.length : Int) by omega), if_pos (show (0 : Int) ≤ (i : Int) by omega), rd106 hlt, valFrom, getD_at hlt, getD_at hlt1]
    by_cases c : t ≤ l[i].f0
    · have bd := on_bd ka.2.1 kb.2.1 ka.1 kb.1 hab (show l[i - 1].f0 ≤ t by omega) t1
      have b1 := ka.2.1
      have b2 := kb.2.1
      have b3 := ka.1
      have b4 := kb.1
      simp only [if_pos c, if_neg (show ¬ (i : Int) = 0 by omega)]
      by_cases c2 : t = l[i].f0
      · have e8 : onV l[i - 1] l[i] t = l[i].f1 := by
          unfold onV
          rw [c2, Int.mul_ediv_cancel _ (by omega)]; omega
        simp only [if_pos c2, e8]
        exact Ev.now _
      · have e2 : wrap64 (l[i].f1 - l[i - 1].f1) = l[i].f1 - l[i - 1].f1 := wrap_small (by omega) (by omega)
        have e3 : wrap64 (t - l[i - 1].f0) = t - l[i - 1].f0 := wrap_small (by omega) (by omega)
        have e4 : wrap64 (l[i].f0 - l[i - 1].f0) = l[i].f0 - l[i - 1].f0 := wrap_small (by omega) (by omega)
        have e5 : wrap64 ((l[i].f1 - l[i - 1].f1) * (t - l[i - 1].f0)) = (l[i].f1 - l[i - 1].f1) * (t - l[i - 1].f0) := wrap_small (by omega) (by omega)
        have e6 := impl_floor (a := (l[i].f1 - l[i - 1].f1) * (t - l[i - 1].f0)) (b := l[i].f0 - l[i - 1].f0) (by omega) (by omega) (by omega)
        have e7 : wrap64 (l[i - 1].f1 + (l[i].f1 - l[i - 1].f1) * (t - l[i - 1].f0) / (l[i].f0 - l[i - 1].f0)) = onV l[i - 1] l[i] t := by unfold onV; exact wrap_small (by omega) (by omega)
        simp only [if_neg c2, e1, if_pos (show (0 : Int) ≤ ((i - 1 : Nat) : Int) by omega), if_pos (show ((i - 1 : Nat) : Int) < (l.length : Int) by omega), rd106 hlt1, impl_on.f, e2, e3, e4, e5, e6, Option.bind_some, e7]
        exact Ev.now _
    · simp only [if_neg c, succ_cast hlt (by omega)]
      exact ih (i + 1) (by omega) (by omega) (by omega) (fun h => by
        have : i + 1 - 1 = i := by omega
        simp only [this]; omega)
theorem impl_at (l : List S106) (hk : keysB l = true) (t : Int) (t1 : t ≤ 59) : Ev (fun k => impl_valueAt.f k l t) (valV l t) := by
  have hn := inB_iff.1 (Bool.and_eq_true_iff.1 hk).2
  have h0 : 0 < l.length := by omega
  have e0 : rd_T106 l 0 = l[0] := rd106 h0
  unfold impl_valueAt.f valV
  refine ev_succ ?_
  simp only [impl_valueAt.l0, if_pos (show (0 : Int) < (l.length : Int) by omega), if_pos (show (0 : Int) ≤ 0 by omega), e0, getD_at h0, if_true, show wrap64 (0 + 1) = ((1 : Nat) : Int) from by unfold wrap64; omega]
  by_cases c : t ≤ l[0].f0
  · simp only [if_pos c]; exact Ev.now _
  · simp only [if_neg c]
    exact impl_at_from l hk t t1 (l.length - 1) 1 rfl (by omega) (by omega) (fun h => by
      have e : 1 - 1 = 0 := rfl
      simp only [e]; omega)
def valueV (l : List S106) (t : Int) : Int × Bool := if keysB l = true then (if inB t 0 59 = true then (valV l t, true) else (0, false)) else (0, false)
theorem spec_value (l : List S106) (hl : l.length ≤ 17592186044416) (t : Int) : Ev (fun k => spec_ValueAt.f k l t) (valueV l t) := by
  unfold spec_ValueAt.f valueV
  refine Ev.bind (spec_keys l hl) ?_
  cases hk : keysB l with
  | false => simp only [Bool.false_eq_true, if_false]; exact Ev.now _
  | true =>
    simp only [if_true, spec_in, Option.bind_some]
    cases ht : inB t 0 59 with
    | false => simp only [Bool.false_eq_true, if_false]; exact Ev.now _
    | true =>
      simp only [if_true]
      exact Ev.bind (spec_at l hk t (inB_iff.1 ht).2) (Ev.now _)
theorem impl_value (l : List S106) (hl : l.length ≤ 17592186044416) (t : Int) : Ev (fun k => impl_ValueAt.f k l t) (valueV l t) := by
  unfold impl_ValueAt.f valueV
  refine Ev.bind (impl_keys l hl) ?_
  cases hk : keysB l with
  | false => simp only [Bool.false_eq_true, if_false]; exact Ev.now _
  | true =>
    simp only [if_true, impl_in, Option.bind_some]
    cases ht : inB t 0 59 with
    | false => simp only [Bool.false_eq_true, if_false]; exact Ev.now _
    | true =>
      simp only [if_true]
      exact Ev.bind (impl_at l hk t (inB_iff.1 ht).2) (Ev.now _)
theorem FnExactValueAt : laws_FnExactValueAt_Pure := by
  intro l t hl _
  have h1 : l.length ≤ 17592186044416 := by omega
  apply Ev.rounds (r := true)
  unfold laws_FnExactValueAt.f laws_szKeyS.f
  by_cases h : wrap64 (1048576 - (l.length : Int)) < 0
  · simp only [if_pos h, Option.bind_some, show (-1 : Int) < 0 from by decide, if_true]
    exact Ev.now true
  · simp only [if_neg h, Option.bind_some]
    have hk := to_keys l h1
    have h2 : (l.map keyOf).length ≤ 17592186044416 := by rw [List.length_map]; exact h1
    refine Ev.bind hk (Ev.bind (spec_value _ h2 t) (Ev.bind hk (Ev.bind (impl_value _ h2 t) ?_)))
    simp only [if_true, bne_self_eq_false]
    refine ev_succ ?_
    simp only [laws_FnExactValueAt.j0, Bool.false_eq_true, if_false]
    refine Ev.bind hk (Ev.bind (eq_keys _ h2) ?_)
    simp only [if_true]
    exact Ev.now true
end Go.Proofs.Ytmkmomcpbkogiaa.Pure
