/- The program's GoodClock and the reference's answer alike at every clock. No condition. -/
import Derived.Test.YtmkmomcpbkogiaaPFnExactGoodClockx5
namespace Go.Proofs.Ytmkmomcpbkogiaa.Pure
open Go.RowKit Go.Proofs.Ytmkmomcpbkogiaa.PFnExactGoodClock Go.Proofs.YtmkmomcpbkogiaaW.PrintWords Go.Proofs.YtmkmomcpbkogiaaW.PrintLast Go.Proofs.YtmkmomcpbkogiaaW.PrintMore
set_option linter.unusedVariables false
set_option linter.unusedSimpArgs false
/-- What can be read as a datum of type 117. -/
def Good117 (x : S117) : Prop := (Lit.int .i64 x.f0).wf = true ∧ (Lit.int .i64 x.f1).wf = true ∧ (Lit.int .i64 x.f2).wf = true ∧ (Lit.int .i64 x.f3).wf = true
/-- The one pure statement. -/
def laws_FnExactGoodClock_Pure : Prop := ∀ (a0_0 : Int) (l0_1 : (List S117)), (Lit.int .i64 a0_0).wf = true → (List.length l0_1 ≤ maxLen ∧ List.length l0_1 * 32 ≤ 140737488351232 ∧ ∀ y ∈ l0_1, Good117 y) → ∃ k, laws_FnExactGoodClock.f k a0_0 l0_1 = some true
/-! #### whole numbers: wraps, quotients towards nought -/
theorem wrap_small {i : Int} (h0 : -9223372036854775808 ≤ i) (h1 : i ≤ 9223372036854775807) : wrap64 i = i := by unfold wrap64; omega
theorem tdiv_pos {a b : Int} (ha : 0 ≤ a) : Int.tdiv a b = a / b := Int.tdiv_eq_ediv_of_nonneg ha
theorem tmod_pos {a b : Int} (ha : 0 ≤ a) : Int.tmod a b = a % b := Int.tmod_eq_emod_of_nonneg ha
theorem tdiv_neg' {a b : Int} (ha : a < 0) : Int.tdiv a b = -((-a) / b) := by
  rw [← Int.tdiv_eq_ediv_of_nonneg (a := -a) (by omega), Int.neg_tdiv, Int.neg_neg]
theorem tmod_neg' {a b : Int} (ha : a < 0) : Int.tmod a b = -((-a) % b) := by
  rw [← Int.tmod_eq_emod_of_nonneg (a := -a) (by omega), Int.neg_tmod, Int.neg_neg]
theorem wf64 {a : Int} (h : (Lit.int .i64 a).wf = true) : -9223372036854775808 ≤ a ∧ a ≤ 9223372036854775807 := by
  simp [Lit.wf, IntKind.min, IntKind.max, IntKind.signed, IntKind.bits] at h
  omega
theorem ev_succ {α : Type} {g : Nat → Option α} {r : α} (h : Ev (fun k => g (k + 1)) r) : Ev g r := Ev.step (f := fun k => g (k + 1)) (fun _ => rfl) h
theorem ev_eq {α : Type} {g : Nat → Option α} {r : α} (h : ∀ k, g k = some r) : Ev g r := ⟨0, fun k _ => h k⟩
theorem ev_val {α : Type} {g : Nat → Option α} {r r' : α} (h : Ev g r) (e : r = r') : Ev g r' := e ▸ h
/-! #### is a number in a span -/
def inB (a b c : Int) : Bool := decide (b ≤ a ∧ a ≤ c)
theorem inB_iff {a b c : Int} : inB a b c = true ↔ b ≤ a ∧ a ≤ c := by unfold inB; rw [decide_eq_true_eq]
theorem spec_in (a b c : Int) : spec_l1In.f a b c = some (inB a b c) := by
  unfold spec_l1In.f inB
  by_cases h : a ≥ b
  · rw [if_pos h]; congr 1; rw [decide_eq_decide]; omega
  · rw [if_neg h]; congr 1; exact (decide_eq_false (by omega)).symm
theorem impl_in (a b c : Int) : impl_inRange.f a b c = some (inB a b c) := by
  unfold impl_inRange.f inB
  by_cases h : b ≤ a
  · rw [if_pos h]; congr 1; rw [decide_eq_decide]; omega
  · rw [if_neg h]; congr 1; exact (decide_eq_false (by omega)).symm
/-! #### loops that go up, from a place on -/
theorem Ev_up {σ ρ : Type} (g : Nat → Nat → σ → Option ρ) (n : Nat) (Inv : Nat → σ → Prop) (Post : ρ → Prop)
    (hend : ∀ s, Inv n s → ∃ r, Ev (fun k => g k n s) r ∧ Post r)
    (hstep : ∀ i s, i < n → Inv i s → (∃ r, Ev (fun k => g k i s) r ∧ Post r) ∨ (∃ s', Inv (i + 1) s' ∧ ∀ r, Ev (fun k => g k (i + 1) s') r → Ev (fun k => g k i s) r))
    (d : Nat) : ∀ i s, n - i = d → i ≤ n → Inv i s → ∃ r, Ev (fun k => g k i s) r ∧ Post r := by
  induction d with
  | zero =>
    intro i s hd hi hs
    obtain rfl : i = n := by omega
    exact hend s hs
  | succ d ih =>
    intro i s hd hi hs
    rcases hstep i s (by omega) hs with h | ⟨s', hs', hg⟩
    · exact h
    · obtain ⟨r, hr, hp⟩ := ih (i + 1) s' (by omega) (by omega) hs'
      exact ⟨r, hg r hr, hp⟩
theorem succ_cast {i n : Nat} (h : i < n) (hn : n ≤ 9223372036854775806) : wrap64 ((i : Int) + 1) = ((i + 1 : Nat) : Int) := by
  rw [wrap_small (by omega) (by omega)]; omega
theorem drop_cons {α : Type} {l : List α} {i : Nat} (h : i < l.length) : l.drop i = l[i] :: l.drop (i + 1) := List.drop_eq_getElem_cons h
theorem rd_at {l : List Int} {i : Nat} (h : i < l.length) : rd l (i : Int) = l[i] := by simp [rd, h]
/-! #### loops that copy and loops that compare -/
theorem set_step {α β : Type} (g : α → β) (z : β) (l : List α) (i : Nat) (hi : i < l.length) : ((l.take i).map g ++ List.replicate (l.length - i) z).set i (g l[i]) = (l.take (i + 1)).map g ++ List.replicate (l.length - (i + 1)) z := by
  have e : l.length - i = (l.length - (i + 1)) + 1 := by omega
  have hl : ((l.take i).map g).length = i := by rw [List.length_map, List.length_take]; omega
  rw [e, List.replicate_succ, List.set_append_right _ _ (by omega), hl, Nat.sub_self, List.set_cons_zero, List.take_succ_eq_append_getElem hi, List.map_append, List.append_assoc]
  rfl
/-- A loop that sets each place of a fresh list. -/
theorem ev_map {α β : Type} (l : List α) (z : β) (g : α → β) (F : Nat → List β → Int → Option (List β)) (G : Nat → α → Option β) (hG : ∀ i (hi : i < l.length), Ev (fun k => G k l[i]) (g l[i]))
    (hstep : ∀ k (x : List β) (i : Nat) (hi : i < l.length), x.length = l.length → F (k + 1) x (i : Int) = (G k l[i]).bind fun v => F k (x.set i v) ((i + 1 : Nat) : Int))
    (hend : ∀ k (x : List β), F (k + 1) x (l.length : Int) = some x) : Ev (fun k => F k (List.replicate l.length z) 0) (l.map g) := by
  have main : ∀ d i, l.length - i = d → i ≤ l.length → Ev (fun k => F k ((l.take i).map g ++ List.replicate (l.length - i) z) (i : Int)) (l.map g) := by
    intro d
    induction d with
    | zero =>
      intro i hd hi
      obtain rfl : i = l.length := by omega
      refine ev_succ ?_
      simp only [hend, Nat.sub_self, List.replicate_zero, List.append_nil, List.take_length]
      exact Ev.now _
    | succ d ih =>
      intro i hd hi
      have hlt : i < l.length := by omega
      refine ev_succ ?_
      have hx : ((l.take i).map g ++ List.replicate (l.length - i) z).length = l.length := by
        rw [List.length_append, List.length_map, List.length_take, List.length_replicate]; omega
      simp only [hstep _ _ i hlt hx]
      refine Ev.bind (hG i hlt) ?_
      simp only [set_step g z l i hlt]
      exact ih (i + 1) (by omega) (by omega)
  have := main l.length 0 (by omega) (by omega)
  simp only [List.take_zero, List.map_nil, List.nil_append, Nat.sub_zero] at this
  exact this
/-- A loop that asks each place, and every place answers true. -/
theorem ev_trues {n : Nat} (F : Nat → Int → Option Bool) (G : Nat → Nat → Option Bool) (hG : ∀ i, i < n → Ev (fun k => G k i) true)
    (hstep : ∀ k (i : Nat), i < n → F (k + 1) (i : Int) = (G k i).bind fun t => if t = true then F k ((i + 1 : Nat) : Int) else some false)
    (hend : ∀ k, F (k + 1) (n : Int) = some true) : Ev (fun k => F k 0) true := by
  have main : ∀ d i, n - i = d → i ≤ n → Ev (fun k => F k (i : Int)) true := by
    intro d
    induction d with
    | zero =>
      intro i hd hi
      obtain rfl : i = n := by omega
      refine ev_succ ?_
      simp only [hend]
      exact Ev.now _
    | succ d ih =>
      intro i hd hi
      refine ev_succ ?_
      simp only [hstep _ i (show i < n by omega)]
      refine Ev.bind (hG i (by omega)) ?_
      simp only [if_true]
      exact ih (i + 1) (by omega) (by omega)
  exact main n 0 (by omega) (by omega)
theorem toNat_cast (i : Nat) : ((i : Int)).toNat = i := Int.toNat_natCast i
/-! ### clocks: the timers' list -/
def timerOf (x : S117) : S82 := ⟨x.f0, x.f1, x.f2, x.f3⟩
theorem rd117 {l : List S117} {i : Nat} (h : i < l.length) : rd_T117 l (i : Int) = l[i] := by simp [rd_T117, h]
theorem rd82 {l : List S82} {i : Nat} (h : i < l.length) : rd_T82 l (i : Int) = l[i] := by simp [rd_T82, h]
theorem to_timers (l : List S117) (hl : l.length ≤ 8796093022208) : Ev (fun k => laws_toTimerS.f k l) (l.map timerOf) := by
  unfold laws_toTimerS.f
  simp only [if_pos (show (0 : Int) ≤ (l.length : Int) by omega), toNat_cast, if_pos hl]
  refine ev_map l z82 timerOf (fun k x i => laws_toTimerS.l0 k l x i) (fun _ x => some (timerOf x)) (fun _ _ => Ev.now _) ?_ ?_
  · intro k x i hi hx
    simp only [laws_toTimerS.l0, if_pos (show (i : Int) < (l.length : Int) by omega), if_pos (show (0 : Int) ≤ (i : Int) by omega), laws_toTimer.f, Option.bind_some, if_pos (show (i : Int) < (x.length : Int) by omega), rd117 hi, toNat_cast, succ_cast hi (by omega)]
    rfl
  · intro k x
    simp only [laws_toTimerS.l0, if_neg (show ¬ (l.length : Int) < (l.length : Int) by omega)]
theorem eq_timers (l : List S82) (hl : l.length ≤ 8796093022208) : Ev (fun k => laws_eqTimerS.f k l l) true := by
  unfold laws_eqTimerS.f
  simp only [if_true]
  refine ev_trues (n := l.length) (fun k i => laws_eqTimerS.l0 k l l i) (fun _ _ => some true) (fun _ _ => Ev.now _) ?_ ?_
  · intro k i hi
    simp only [laws_eqTimerS.l0, if_pos (show (i : Int) < (l.length : Int) by omega), if_pos (show (0 : Int) ≤ (i : Int) by omega), laws_eqTimer.f, if_true, Option.bind_some, rd82 hi, succ_cast hi (by omega)]
  · intro k
    simp only [laws_eqTimerS.l0, if_neg (show ¬ (l.length : Int) < (l.length : Int) by omega)]
/-- A timer is good, at the clock's time. -/
def timerB (t : S82) (now : Int) : Bool := inB t.f0 0 999 && (inB t.f1 (wrap64 (now + 1)) 200000 && (inB t.f2 0 100000 && (inB t.f3 1 1000 && (decide (t.f2 ≠ 0) || decide (t.f3 = 1)))))
/-- The timer at a place is good, and its number is above that of the one before it. -/
def clockAt (l : List S82) (now : Int) (i : Nat) : Bool := timerB (l.getD i z82) now && (decide (i = 0) || decide ((l.getD (i - 1) z82).f0 < (l.getD i z82).f0))
def clockFrom (l : List S82) (now : Int) : Nat → Nat → Bool
  | 0, _ => true
  | d + 1, i => clockAt l now i && clockFrom l now d (i + 1)
theorem getD_timer {l : List S82} {i : Nat} (h : i < l.length) : l.getD i z82 = l[i] := by simp [h]
theorem spec_clock_from (l : List S82) (now : Int) (hl : l.length ≤ 8796093022208) (d : Nat) : ∀ i : Nat, l.length - i = d → i ≤ l.length → Ev (fun k => spec_GoodClock.l0 k l (l.length : Int) (i : Int) now l) (clockFrom l now d i) := by
  induction d with
  | zero =>
    intro i hd hi
    refine ev_succ ?_
    simp only [spec_GoodClock.l0, if_neg (show ¬ (i : Int) < (l.length : Int) by omega)]
    exact Ev.now _
  | succ d ih =>
    intro i hd hi
    have hlt : i < l.length := by omega
    have ihn := ih (i + 1) (by omega) (by omega)
    refine ev_succ ?_
    unfold clockFrom clockAt timerB
    simp only [spec_GoodClock.l0, if_pos (show (i : Int) < (l.length : Int) by omega), if_pos (show (0 : Int) ≤ (i : Int) by omega), rd82 hlt, spec_in, Option.bind_some, getD_timer hlt, succ_cast hlt (by omega)]
    cases inB l[i].f0 0 999 with
    | false => simp only [Bool.false_eq_true, if_false, Bool.false_and]; exact Ev.now _
    | true =>
      simp only [if_true, Bool.true_and]
      have tail : ∀ q : Bool, q = true → Ev (fun k => if inB l[i].f1 (wrap64 (now + 1)) 200000 = true then (if inB l[i].f2 0 100000 = true then (if inB l[i].f3 1 1000 = true then (if l[i].f2 = 0 then (if l[i].f3 = 1 then (spec_GoodClock.l0 k l (l.length : Int) ((i + 1 : Nat) : Int) now l) else (some false)) else (spec_GoodClock.l0 k l (l.length : Int) ((i + 1 : Nat) : Int) now l)) else (some false)) else (some false)) else (some false)) (((inB l[i].f1 (wrap64 (now + 1)) 200000 && (inB l[i].f2 0 100000 && (inB l[i].f3 1 1000 && (decide (l[i].f2 ≠ 0) || decide (l[i].f3 = 1))))) && q) && clockFrom l now d (i + 1)) := by
        intro q hq
        rw [hq, Bool.and_true]
        cases inB l[i].f1 (wrap64 (now + 1)) 200000 with
        | false => simp only [Bool.false_eq_true, if_false, Bool.false_and]; exact Ev.now _
        | true =>
          cases inB l[i].f2 0 100000 with
          | false => simp only [if_true, Bool.false_eq_true, if_false, Bool.false_and, Bool.and_false]; exact Ev.now _
          | true =>
            cases inB l[i].f3 1 1000 with
            | false => simp only [if_true, Bool.false_eq_true, if_false, Bool.false_and, Bool.and_false]; exact Ev.now _
            | true =>
              simp only [if_true, Bool.true_and]
              by_cases c2 : l[i].f2 = 0
              · by_cases c3 : l[i].f3 = 1
                · simp only [if_pos c2, if_pos c3, decide_eq_true c3, Bool.or_true, Bool.true_and]; exact ihn
                · have e2 : decide (l[i].f2 ≠ 0) = false := decide_eq_false (fun h => h c2)
                  simp only [if_pos c2, if_neg c3, decide_eq_false c3, e2, Bool.or_false, Bool.false_and]; exact Ev.now _
              · have e2 : decide (l[i].f2 ≠ 0) = true := decide_eq_true c2
                simp only [if_neg c2, e2, Bool.true_or, Bool.true_and]; exact ihn
      by_cases c0 : i = 0
      · subst c0
        have := tail true rfl
        simp only [if_neg (show ¬ ((0 : Nat) : Int) > 0 by omega), decide_true, Bool.true_or]
        exact this
      · have e1 : wrap64 ((i : Int) - 1) = ((i - 1 : Nat) : Int) := by rw [wrap_small (by omega) (by omega)]; omega
        have h1 : i - 1 < l.length := by omega
        simp only [if_pos (show (i : Int) > 0 by omega), e1, if_pos (show (0 : Int) ≤ ((i - 1 : Nat) : Int) by omega), if_pos (show ((i - 1 : Nat) : Int) < (l.length : Int) by omega), rd82 h1, getD_timer h1, decide_eq_false c0, Bool.false_or]
        by_cases c1 : l[i - 1].f0 ≥ l[i].f0
        · simp only [if_pos c1, decide_eq_false (show ¬ l[i - 1].f0 < l[i].f0 by omega), Bool.and_false, Bool.false_and]
          exact Ev.now _
        · simp only [if_neg c1, decide_eq_true (show l[i - 1].f0 < l[i].f0 by omega)]
          exact tail true rfl
theorem impl_timer (t : S82) (now : Int) : impl_isTimer.f t.f0 t.f1 t.f2 t.f3 now = some (timerB t now) := by
  unfold impl_isTimer.f impl_isTime.f timerB
  simp only [impl_in, Option.bind_some]
  cases h2 : inB t.f2 0 100000 with
  | false =>
    cases inB t.f0 0 999 with
    | false => simp
    | true => cases inB t.f1 (wrap64 (now + 1)) 200000 <;> simp
  | true =>
    have h3 := inB_iff.1 h2
    have e : decide (t.f2 ≠ 0) = decide (t.f2 > 0) := by
      by_cases c : t.f2 > 0
      · rw [decide_eq_true c, decide_eq_true (show t.f2 ≠ 0 by omega)]
      · rw [decide_eq_false c, decide_eq_false (show ¬ t.f2 ≠ 0 by omega)]
    rw [e]
    cases inB t.f0 0 999 with
    | false => simp
    | true =>
      cases inB t.f1 (wrap64 (now + 1)) 200000 with
      | false => simp
      | true =>
        cases inB t.f3 1 1000 with
        | false => simp
        | true =>
          by_cases c : t.f2 > 0
          · simp [c]
          · simp only [if_true, if_neg c, decide_eq_false c, Bool.true_and, Bool.false_or]
            congr 1
theorem impl_clock_from (l : List S82) (now : Int) (hl : l.length ≤ 8796093022208) (d : Nat) : ∀ i : Nat, l.length - i = d → i ≤ l.length → Ev (fun k => impl_GoodClock.l0 k l (l.length : Int) (i : Int) now l) (clockFrom l now d i) := by
  induction d with
  | zero =>
    intro i hd hi
    refine ev_succ ?_
    simp only [impl_GoodClock.l0, if_neg (show ¬ (i : Int) < (l.length : Int) by omega)]
    exact Ev.now _
  | succ d ih =>
    intro i hd hi
    have hlt : i < l.length := by omega
    have ihn := ih (i + 1) (by omega) (by omega)
    refine ev_succ ?_
    unfold clockFrom clockAt
    simp only [impl_GoodClock.l0, if_pos (show (i : Int) < (l.length : Int) by omega), if_pos (show (0 : Int) ≤ (i : Int) by omega), rd82 hlt, impl_timer, Option.bind_some, getD_timer hlt, succ_cast hlt (by omega)]
    cases timerB l[i] now with
    | false => simp only [Bool.false_eq_true, if_false, Bool.false_and]; exact Ev.now _
    | true =>
      simp only [if_true, Bool.true_and]
      by_cases c0 : i = 0
      · subst c0
        simp only [if_neg (show ¬ ((0 : Nat) : Int) > 0 by omega), decide_true, Bool.true_or, Bool.true_and]
        exact ihn
      · have e1 : wrap64 ((i : Int) - 1) = ((i - 1 : Nat) : Int) := by rw [wrap_small (by omega) (by omega)]; omega
        have h1 : i - 1 < l.length := by omega
        simp only [if_pos (show (i : Int) > 0 by omega), e1, if_pos (show (0 : Int) ≤ ((i - 1 : Nat) : Int) by omega), if_pos (show ((i - 1 : Nat) : Int) < (l.length : Int) by omega), rd82 h1, getD_timer h1, decide_eq_false c0, Bool.false_or]
        by_cases c1 : l[i - 1].f0 ≥ l[i].f0
        · simp only [if_pos c1, decide_eq_false (show ¬ l[i - 1].f0 < l[i].f0 by omega), Bool.false_and]
          exact Ev.now _
        · simp only [if_neg c1, decide_eq_true (show l[i - 1].f0 < l[i].f0 by omega), Bool.true_and]
          exact ihn
def clockB (now : Int) (l : List S82) : Bool := inB now 0 100000 && (decide (l.length ≤ 20) && clockFrom l now l.length 0)
theorem spec_clock (now : Int) (l : List S82) (hl : l.length ≤ 8796093022208) : Ev (fun k => spec_GoodClock.f k now l) (clockB now l) := by
  unfold spec_GoodClock.f clockB
  simp only [spec_in, Option.bind_some]
  cases inB now 0 100000 with
  | false =>
    simp only [Bool.false_eq_true, if_false, Bool.false_and]
    refine ev_succ ?_
    simp only [spec_GoodClock.j0, if_true]
    exact Ev.now _
  | true =>
    simp only [if_true, Bool.true_and]
    refine ev_succ ?_
    simp only [spec_GoodClock.j0]
    by_cases c : (l.length : Int) > 20
    · simp only [decide_eq_true c, if_true, decide_eq_false (show ¬ l.length ≤ 20 by omega), Bool.false_and]; exact Ev.now _
    · simp only [decide_eq_false c, Bool.false_eq_true, if_false, decide_eq_true (show l.length ≤ 20 by omega), Bool.true_and]
      exact spec_clock_from l now hl l.length 0 (by omega) (by omega)
theorem impl_clock (now : Int) (l : List S82) (hl : l.length ≤ 8796093022208) : Ev (fun k => impl_GoodClock.f k now l) (clockB now l) := by
  unfold impl_GoodClock.f clockB impl_isTime.f
  simp only [impl_in, Option.bind_some]
  cases inB now 0 100000 with
  | false =>
    simp only [Bool.false_eq_true, if_false, Bool.false_and]
    refine ev_succ ?_
    simp only [impl_GoodClock.j0, if_true]
    exact Ev.now _
  | true =>
    simp only [if_true, Bool.true_and]
    refine ev_succ ?_
    simp only [impl_GoodClock.j0]
    by_cases c : (l.length : Int) > 20
    · simp only [decide_eq_true c, if_true, decide_eq_false (show ¬ l.length ≤ 20 by omega), Bool.false_and]; exact Ev.now _
    · simp only [decide_eq_false c, Bool.false_eq_true, if_false, decide_eq_true (show l.length ≤ 20 by omega), Bool.true_and]
      exact impl_clock_from l now hl l.length 0 (by omega) (by omega)
theorem to_clock (now : Int) (l : List S117) (hl : l.length ≤ 8796093022208) : Ev (fun k => laws_toClock.f k now l) (now, l.map timerOf) := by
  unfold laws_toClock.f
  exact Ev.bind (to_timers l hl) (Ev.now _)
theorem eq_clock (now : Int) (l : List S82) (hl : l.length ≤ 8796093022208) : Ev (fun k => laws_eqClock.f k now l now l) true := by
  unfold laws_eqClock.f
  simp only [if_true]
  refine Ev.bind (eq_timers l hl) ?_
  simp only [if_true]
  exact Ev.now true
theorem FnExactGoodClock : laws_FnExactGoodClock_Pure := by
  intro now l _ hl
  have h1 : l.length ≤ 8796093022208 := by omega
  apply Ev.rounds (r := true)
  unfold laws_FnExactGoodClock.f laws_szClock.f laws_szTimerS.f
  by_cases h : wrap64 (1048576 - (l.length : Int)) < 0
  · simp only [if_pos h, Option.bind_some, show (-1 : Int) < 0 from by decide, if_true]
    exact Ev.now true
  · simp only [if_neg h, Option.bind_some]
    have hk := to_clock now l h1
    have h2 : (l.map timerOf).length ≤ 8796093022208 := by rw [List.length_map]; exact h1
    refine Ev.bind hk (Ev.bind (spec_clock now _ h2) (Ev.bind hk (Ev.bind (impl_clock now _ h2) ?_)))
    simp only [bne_self_eq_false, Bool.false_eq_true, if_false]
    refine Ev.bind hk (Ev.bind (eq_clock now _ h2) ?_)
    simp only [if_true]
    exact Ev.now true
end Go.Proofs.Ytmkmomcpbkogiaa.Pure
