/- The program's RunClock and the reference's answer alike at every clock. No condition. (SMAP=117:76,82:54 mk.py: the seat's own numbers of the struct types.) -/
import Derived.Test.YtcdchmdkcdlklaaPFnExactRunClockx11
namespace Go.Proofs.Ytcdchmdkcdlklaa.Pure
open Go.RowKit Go.Proofs.Ytcdchmdkcdlklaa.PFnExactRunClock Go.Proofs.YtcdchmdkcdlklaaW.PrintWords Go.Proofs.YtcdchmdkcdlklaaW.PrintLast Go.Proofs.YtcdchmdkcdlklaaW.PrintMore
set_option linter.unusedVariables false
set_option linter.unusedSimpArgs false
/-- What can be read as a datum of type 76. -/
def Good76 (x : S76) : Prop := (Lit.int .i64 x.f0).wf = true ∧ (Lit.int .i64 x.f1).wf = true ∧ (Lit.int .i64 x.f2).wf = true ∧ (Lit.int .i64 x.f3).wf = true
/-- The one pure statement. -/
def laws_FnExactRunClock_Pure : Prop := ∀ (a0_0 : Int) (l0_1 : (List S76)) (a1 : Int), (Lit.int .i64 a0_0).wf = true → (List.length l0_1 ≤ maxLen ∧ List.length l0_1 * 32 ≤ 140737488351232 ∧ ∀ y ∈ l0_1, Good76 y) → (Lit.int .i64 a1).wf = true → ∃ k, laws_FnExactRunClock.f k a0_0 l0_1 a1 = some true
/-! #### whole numbers: wraps, quotients towards nought -/
theorem wrap_small {i : Int} (h0 : -9223372036854775808 ≤ i) (h1 : i ≤ 9223372036854775807) : wrap64 i = i := by unfold wrap64; omega
theorem tdiv_pos {a b : Int} (ha : 0 ≤ a) : Int.tdiv a b = a / b := Int.tdiv_eq_ediv_of_nonneg ha
theorem tmod_pos {a b : Int} (ha : 0 ≤ a) : Int.tmod a b = a % b := Int.tmod_eq_emod_of_nonneg ha
theorem tdiv_neg' {a b : Int} (ha : a < 0) : Int.tdiv a b = -((-a) / b) := by
 rw [← Int.tdiv_eq_ediv_of_nonneg (a := -a) (by omega), Int.neg_tdiv, Int.neg_neg]
theorem tmod_neg' {a b : Int} (ha : a < 0) : Int.tmod a b = -((-a) % b) := by
 rw [← Int.tmod_eq_emod_of_nonneg (a := -a) (by omega), Int.neg_tmod, Int.neg_neg]
theorem wf64 {a : Int} (h : (Lit.int .i64 a).wf = true) : -9223372036854775808 ≤ a ∧ a ≤ 9223372036854775807 := by
 simp [Lit.wf, IntKind.min, IntKind.max, IntKind.signed, IntKind.bits] at h
 omega
theorem ev_succ {α : Type} {g : Nat → Option α} {r : α} (h : Ev (fun k => g (k + 1)) r) : Ev g r := Ev.step (f := fun k => g (k + 1)) (fun _ => rfl) h
theorem ev_eq {α : Type} {g : Nat → Option α} {r : α} (h : ∀ k, g k = some r) : Ev g r := ⟨0, fun k _ => h k⟩
theorem ev_val {α : Type} {g : Nat → Option α} {r r' : α} (h : Ev g r) (e : r = r') : Ev g r' := e ▸ h
/-! #### is a number in a span -/
def inB (a b c : Int) : Bool := decide (b ≤ a ∧ a ≤ c)
theorem inB_iff {a b c : Int} : inB a b c = true ↔ b ≤ a ∧ a ≤ c := by unfold inB; rw [decide_eq_true_eq]
theorem spec_in (a b c : Int) : spec_l1In.f a b c = some (inB a b c) := by
 unfold spec_l1In.f inB
 by_cases h : a ≥ b
 ·rw [if_pos h]; congr 1; rw [decide_eq_decide]; omega
 ·rw [if_neg h]; congr 1; exact (decide_eq_false (by omega)).symm
theorem impl_in (a b c : Int) : impl_inRange.f a b c = some (inB a b c) := by
 unfold impl_inRange.f inB
 by_cases h : b ≤ a
 ·rw [if_pos h]; congr 1; rw [decide_eq_decide]; omega
 ·rw [if_neg h]; congr 1; exact (decide_eq_false (by omega)).symm
/-! #### loops that go up, from a place on -/
theorem Ev_up {σ ρ : Type} (g : Nat → Nat → σ → Option ρ) (n : Nat) (Inv : Nat → σ → Prop) (Post : ρ → Prop)
  (hend : ∀ s, Inv n s → ∃ r, Ev (fun k => g k n s) r ∧ Post r)
  (hstep : ∀ i s, i < n → Inv i s → (∃ r, Ev (fun k => g k i s) r ∧ Post r) ∨ (∃ s', Inv (i + 1) s' ∧ ∀ r, Ev (fun k => g k (i + 1) s') r → Ev (fun k => g k i s) r))
  (d : Nat) : ∀ i s, n - i = d → i ≤ n → Inv i s → ∃ r, Ev (fun k => g k i s) r ∧ Post r := by
 induction d with
 | zero =>
  intro i s hd hi hs
  obtain rfl : i = n := by omega
  exact hend s hs
 | succ d ih =>
  intro i s hd hi hs
  rcases hstep i s (by omega) hs with h | ⟨s', hs', hg⟩
  ·exact h
  ·obtain ⟨r, hr, hp⟩ := ih (i + 1) s' (by omega) (by omega) hs'
   exact ⟨r, hg r hr, hp⟩
theorem succ_cast {i n : Nat} (h : i < n) (hn : n ≤ 9223372036854775806) : wrap64 ((i : Int) + 1) = ((i + 1 : Nat) : Int) := by
 rw [wrap_small (by omega) (by omega)]; omega
theorem drop_cons {α : Type} {l : List α} {i : Nat} (h : i < l.length) : l.drop i = l[i] :: l.drop (i + 1) := List.drop_eq_getElem_cons h
theorem rd_at {l : List Int} {i : Nat} (h : i < l.length) : rd l (i : Int) = l[i] := by simp [rd, h]
/-! #### loops that copy and loops that compare -/
theorem set_step {α β : Type} (g : α → β) (z : β) (l : List α) (i : Nat) (hi : i < l.length) : ((l.take i).map g ++ List.replicate (l.length - i) z).set i (g l[i]) = (l.take (i + 1)).map g ++ List.replicate (l.length - (i + 1)) z := by
 have e : l.length - i = (l.length - (i + 1)) + 1 := by omega
 have hl : ((l.take i).map g).length = i := by rw [List.length_map, List.length_take]; omega
 rw [e, List.replicate_succ, List.set_append_right _ _ (by omega), hl, Nat.sub_self, List.set_cons_zero, List.take_succ_eq_append_getElem hi, List.map_append, List.append_assoc]
 rfl
/-- A loop that sets each place of a fresh list. -/
theorem ev_map {α β : Type} (l : List α) (z : β) (g : α → β) (F : Nat → List β → Int → Option (List β)) (G : Nat → α → Option β) (hG : ∀ i (hi : i < l.length), Ev (fun k => G k l[i]) (g l[i]))
  (hstep : ∀ k (x : List β) (i : Nat) (hi : i < l.length), x.length = l.length → F (k + 1) x (i : Int) = (G k l[i]).bind fun v => F k (x.set i v) ((i + 1 : Nat) : Int))
  (hend : ∀ k (x : List β), F (k + 1) x (l.length : Int) = some x) : Ev (fun k => F k (List.replicate l.length z) 0) (l.map g) := by
 have main : ∀ d i, l.length - i = d → i ≤ l.length → Ev (fun k => F k ((l.take i).map g ++ List.replicate (l.length - i) z) (i : Int)) (l.map g) := by
  intro d
  induction d with
  | zero =>
   intro i hd hi
   obtain rfl : i = l.length := by omega
   refine ev_succ ?_
   simp only [hend, Nat.sub_self, List.replicate_zero, List.append_nil, List.take_length]
   exact Ev.now _
  | succ d ih =>
   intro i hd hi
   have hlt : i < l.length := by omega
   refine ev_succ ?_
   have hx : ((l.take i).map g ++ List.replicate (l.length - i) z).length = l.length := by
    rw [List.length_append, List.length_map, List.length_take, List.length_replicate]; omega
   simp only [hstep _ _ i hlt hx]
   refine Ev.bind (hG i hlt) ?_
   simp only [set_step g z l i hlt]
   exact ih (i + 1) (by omega) (by omega)
 have := main l.length 0 (by omega) (by omega)
 simp only [List.take_zero, List.map_nil, List.nil_append, Nat.sub_zero] at this
 exact this
/-- A loop that asks each place, and every place answers true. -/
theorem ev_trues {n : Nat} (F : Nat → Int → Option Bool) (G : Nat → Nat → Option Bool) (hG : ∀ i, i < n → Ev (fun k => G k i) true)
  (hstep : ∀ k (i : Nat), i < n → F (k + 1) (i : Int) = (G k i).bind fun t => if t = true then F k ((i + 1 : Nat) : Int) else some false)
  (hend : ∀ k, F (k + 1) (n : Int) = some true) : Ev (fun k => F k 0) true := by
 have main : ∀ d i, n - i = d → i ≤ n → Ev (fun k => F k (i : Int)) true := by
  intro d
  induction d with
  | zero =>
   intro i hd hi
   obtain rfl : i = n := by omega
   refine ev_succ ?_
   simp only [hend]
   exact Ev.now _
  | succ d ih =>
   intro i hd hi
   refine ev_succ ?_
   simp only [hstep _ i (show i < n by omega)]
   refine Ev.bind (hG i (by omega)) ?_
   simp only [if_true]
   exact ih (i + 1) (by omega) (by omega)
 exact main n 0 (by omega) (by omega)
theorem toNat_cast (i : Nat) : ((i : Int)).toNat = i := Int.toNat_natCast i
/-! ### clocks: the timers' list -/
def timerOf (x : S76) : S54 := ⟨x.f0, x.f1, x.f2, x.f3⟩
theorem rd117 {l : List S76} {i : Nat} (h : i < l.length) : rd_T76 l (i : Int) = l[i] := by simp [rd_T76, h]
theorem rd82 {l : List S54} {i : Nat} (h : i < l.length) : rd_T54 l (i : Int) = l[i] := by simp [rd_T54, h]
theorem to_timers (l : List S76) (hl : l.length ≤ 8796093022208) : Ev (fun k => laws_toTimerS.f k l) (l.map timerOf) := by
 unfold laws_toTimerS.f
 simp only [if_pos (show (0 : Int) ≤ (l.length : Int) by omega), toNat_cast, if_pos hl]
 refine ev_map l z54 timerOf (fun k x i => laws_toTimerS.l0 k l x i) (fun _ x => some (timerOf x)) (fun _ _ => Ev.now _) ?_ ?_
 ·intro k x i hi hx
  simp only [laws_toTimerS.l0, if_pos (show (i : Int) < (l.length : Int) by omega), if_pos (show (0 : Int) ≤ (i : Int) by omega), laws_toTimer.f, Option.bind_some, if_pos (show (i : Int) < (x.length : Int) by omega), rd117 hi, toNat_cast, succ_cast hi (by omega)]
  rfl
 ·intro k x
  simp only [laws_toTimerS.l0, if_neg (show ¬ (l.length : Int) < (l.length : Int) by omega)]
theorem eq_timers (l : List S54) (hl : l.length ≤ 8796093022208) : Ev (fun k => laws_eqTimerS.f k l l) true := by
 unfold laws_eqTimerS.f
 simp only [if_true]
 refine ev_trues (n := l.length) (fun k i => laws_eqTimerS.l0 k l l i) (fun _ _ => some true) (fun _ _ => Ev.now _) ?_ ?_
 ·intro k i hi
  simp only [laws_eqTimerS.l0, if_pos (show (i : Int) < (l.length : Int) by omega), if_pos (show (0 : Int) ≤ (i : Int) by omega), laws_eqTimer.f, if_true, Option.bind_some, rd82 hi, succ_cast hi (by omega)]
 ·intro k
  simp only [laws_eqTimerS.l0, if_neg (show ¬ (l.length : Int) < (l.length : Int) by omega)]
/-- A timer is good, at the clock's time. -/
def timerB (t : S54) (now : Int) : Bool := inB t.f0 0 999 && (inB t.f1 (wrap64 (now + 1)) 200000 && (inB t.f2 0 100000 && (inB t.f3 1 1000 && (decide (t.f2 ≠ 0) || decide (t.f3 = 1)))))
/-- The timer at a place is good, and its number is above that of the one before it. -/
def clockAt (l : List S54) (now : Int) (i : Nat) : Bool := timerB (l.getD i z54) now && (decide (i = 0) || decide ((l.getD (i - 1) z54).f0 < (l.getD i z54).f0))
def clockFrom (l : List S54) (now : Int) : Nat → Nat → Bool
 | 0, _ => true
 | d + 1, i => clockAt l now i && clockFrom l now d (i + 1)
theorem getD_timer {l : List S54} {i : Nat} (h : i < l.length) : l.getD i z54 = l[i] := by simp [h]
theorem spec_clock_from (l : List S54) (now : Int) (hl : l.length ≤ 8796093022208) (d : Nat) : ∀ i : Nat, l.length - i = d → i ≤ l.length → Ev (fun k => spec_GoodClock.l0 k l (l.length : Int) (i : Int) now l) (clockFrom l now d i) := by
 induction d with
 | zero =>
  intro i hd hi
  refine ev_succ ?_
  simp only [spec_GoodClock.l0, if_neg (show ¬ (i : Int) < (l.length : Int) by omega)]
  exact Ev.now _
 | succ d ih =>
  intro i hd hi
  have hlt : i < l.length := by omega
  have ihn := ih (i + 1) (by omega) (by omega)
  refine ev_succ ?_
  unfold clockFrom clockAt timerB
  simp only [spec_GoodClock.l0, if_pos (show (i : Int) < (l.length : Int) by omega), if_pos (show (0 : Int) ≤ (i : Int) by omega), rd82 hlt, spec_in, Option.bind_some, getD_timer hlt, succ_cast hlt (by omega)]
  cases inB l[i].f0 0 999 with
  | false => simp only [Bool.false_eq_true, if_false, Bool.false_and]; exact Ev.now _
  | true =>
   simp only [if_true, Bool.true_and]
   have tail : ∀ q : Bool, q = true → Ev (fun k => if inB l[i].f1 (wrap64 (now + 1)) 200000 = true then (if inB l[i].f2 0 100000 = true then (if inB l[i].f3 1 1000 = true then (if l[i].f2 = 0 then (if l[i].f3 = 1 then (spec_GoodClock.l0 k l (l.length : Int) ((i + 1 : Nat) : Int) now l) else (some false)) else (spec_GoodClock.l0 k l (l.length : Int) ((i + 1 : Nat) : Int) now l)) else (some false)) else (some false)) else (some false)) (((inB l[i].f1 (wrap64 (now + 1)) 200000 && (inB l[i].f2 0 100000 && (inB l[i].f3 1 1000 && (decide (l[i].f2 ≠ 0) || decide (l[i].f3 = 1))))) && q) && clockFrom l now d (i + 1)) := by
    intro q hq
    rw [hq, Bool.and_true]
    cases inB l[i].f1 (wrap64 (now + 1)) 200000 with
    | false => simp only [Bool.false_eq_true, if_false, Bool.false_and]; exact Ev.now _
    | true =>
     cases inB l[i].f2 0 100000 with
     | false => simp only [if_true, Bool.false_eq_true, if_false, Bool.false_and, Bool.and_false]; exact Ev.now _
     | true =>
      cases inB l[i].f3 1 1000 with
      | false => simp only [if_true, Bool.false_eq_true, if_false, Bool.false_and, Bool.and_false]; exact Ev.now _
      | true =>
       simp only [if_true, Bool.true_and]
       by_cases c2 : l[i].f2 = 0
       ·by_cases c3 : l[i].f3 = 1
        ·simp only [if_pos c2, if_pos c3, decide_eq_true c3, Bool.or_true, Bool.true_and]; exact ihn
        ·have e2 : decide (l[i].f2 ≠ 0) = false := decide_eq_false (fun h => h c2)
         simp only [if_pos c2, if_neg c3, decide_eq_false c3, e2, Bool.or_false, Bool.false_and]; exact Ev.now _
       ·have e2 : decide (l[i].f2 ≠ 0) = true := decide_eq_true c2
        simp only [if_neg c2, e2, Bool.true_or, Bool.true_and]; exact ihn
   by_cases c0 : i = 0
   ·subst c0
    have := tail true rfl
    simp only [if_neg (show ¬ ((0 : Nat) : Int) > 0 by omega), decide_true, Bool.true_or]
    exact this
   ·have e1 : wrap64 ((i : Int) - 1) = ((i - 1 : Nat) : Int) := by rw [wrap_small (by omega) (by omega)]; omega
    have h1 : i - 1 < l.length := by omega
    simp only [if_pos (show (i : Int) > 0 by omega), e1, if_pos (show (0 : Int) ≤ ((i - 1 : Nat) : Int) by omega), if_pos (show ((i - 1 : Nat) : Int) < (l.length : Int) by omega), rd82 h1, getD_timer h1, decide_eq_false c0, Bool.false_or]
    by_cases c1 : l[i - 1].f0 ≥ l[i].f0
    ·simp only [if_pos c1, decide_eq_false (show ¬ l[i - 1].f0 < l[i].f0 by omega), Bool.and_false, Bool.false_and]
     exact Ev.now _
    ·simp only [if_neg c1, decide_eq_true (show l[i - 1].f0 < l[i].f0 by omega)]
     exact tail true rfl
theorem impl_timer (t : S54) (now : Int) : impl_isTimer.f t.f0 t.f1 t.f2 t.f3 now = some (timerB t now) := by
 unfold impl_isTimer.f impl_isTime.f timerB
 simp only [impl_in, Option.bind_some]
 cases h2 : inB t.f2 0 100000 with
 | false =>
  cases inB t.f0 0 999 with
  | false => simp
  | true => cases inB t.f1 (wrap64 (now + 1)) 200000 <;> simp
 | true =>
  have h3 := inB_iff.1 h2
  have e : decide (t.f2 ≠ 0) = decide (t.f2 > 0) := by
   by_cases c : t.f2 > 0
   ·rw [decide_eq_true c, decide_eq_true (show t.f2 ≠ 0 by omega)]
   ·rw [decide_eq_false c, decide_eq_false (show ¬ t.f2 ≠ 0 by omega)]
  rw [e]
  cases inB t.f0 0 999 with
  | false => simp
  | true =>
   cases inB t.f1 (wrap64 (now + 1)) 200000 with
   | false => simp
   | true =>
    cases inB t.f3 1 1000 with
    | false => simp
    | true =>
     by_cases c : t.f2 > 0
     ·simp [c]
     ·simp only [if_true, if_neg c, decide_eq_false c, Bool.true_and, Bool.false_or]
      congr 1
theorem impl_clock_from (l : List S54) (now : Int) (hl : l.length ≤ 8796093022208) (d : Nat) : ∀ i : Nat, l.length - i = d → i ≤ l.length → Ev (fun k => impl_GoodClock.l0 k l (l.length : Int) (i : Int) now l) (clockFrom l now d i) := by
 induction d with
 | zero =>
  intro i hd hi
  refine ev_succ ?_
  simp only [impl_GoodClock.l0, if_neg (show ¬ (i : Int) < (l.length : Int) by omega)]
  exact Ev.now _
 | succ d ih =>
  intro i hd hi
  have hlt : i < l.length := by omega
  have ihn := ih (i + 1) (by omega) (by omega)
  refine ev_succ ?_
  unfold clockFrom clockAt
  simp only [impl_GoodClock.l0, if_pos (show (i : Int) < (l.length : Int) by omega), if_pos (show (0 : Int) ≤ (i : Int) by omega), rd82 hlt, impl_timer, Option.bind_some, getD_timer hlt, succ_cast hlt (by omega)]
  cases timerB l[i] now with
  | false => simp only [Bool.false_eq_true, if_false, Bool.false_and]; exact Ev.now _
  | true =>
   simp only [if_true, Bool.true_and]
   by_cases c0 : i = 0
   ·subst c0
    simp only [if_neg (show ¬ ((0 : Nat) : Int) > 0 by omega), decide_true, Bool.true_or, Bool.true_and]
    exact ihn
   ·have e1 : wrap64 ((i : Int) - 1) = ((i - 1 : Nat) : Int) := by rw [wrap_small (by omega) (by omega)]; omega
    have h1 : i - 1 < l.length := by omega
    simp only [if_pos (show (i : Int) > 0 by omega), e1, if_pos (show (0 : Int) ≤ ((i - 1 : Nat) : Int) by omega), if_pos (show ((i - 1 : Nat) : Int) < (l.length : Int) by omega), rd82 h1, getD_timer h1, decide_eq_false c0, Bool.false_or]
    by_cases c1 : l[i - 1].f0 ≥ l[i].f0
    ·simp only [if_pos c1, decide_eq_false (show ¬ l[i - 1].f0 < l[i].f0 by omega), Bool.false_and]
     exact Ev.now _
    ·simp only [if_neg c1, decide_eq_true (show l[i - 1].f0 < l[i].f0 by omega), Bool.true_and]
     exact ihn
def clockB (now : Int) (l : List S54) : Bool := inB now 0 100000 && (decide (l.length ≤ 20) && clockFrom l now l.length 0)
theorem spec_clock (now : Int) (l : List S54) (hl : l.length ≤ 8796093022208) : Ev (fun k => spec_GoodClock.f k now l) (clockB now l) := by
 unfold spec_GoodClock.f clockB
 simp only [spec_in, Option.bind_some]
 cases inB now 0 100000 with
 | false =>
  simp only [Bool.false_eq_true, if_false, Bool.false_and]
  refine ev_succ ?_
  simp only [spec_GoodClock.j0, if_true]
  exact Ev.now _
 | true =>
  simp only [if_true, Bool.true_and]
  refine ev_succ ?_
  simp only [spec_GoodClock.j0]
  by_cases c : (l.length : Int) > 20
  ·simp only [decide_eq_true c, if_true, decide_eq_false (show ¬ l.length ≤ 20 by omega), Bool.false_and]; exact Ev.now _
  ·simp only [decide_eq_false c, Bool.false_eq_true, if_false, decide_eq_true (show l.length ≤ 20 by omega), Bool.true_and]
   exact spec_clock_from l now hl l.length 0 (by omega) (by omega)
theorem impl_clock (now : Int) (l : List S54) (hl : l.length ≤ 8796093022208) : Ev (fun k => impl_GoodClock.f k now l) (clockB now l) := by
 unfold impl_GoodClock.f clockB impl_isTime.f
 simp only [impl_in, Option.bind_some]
 cases inB now 0 100000 with
 | false =>
  simp only [Bool.false_eq_true, if_false, Bool.false_and]
  refine ev_succ ?_
  simp only [impl_GoodClock.j0, if_true]
  exact Ev.now _
 | true =>
  simp only [if_true, Bool.true_and]
  refine ev_succ ?_
  simp only [impl_GoodClock.j0]
  by_cases c : (l.length : Int) > 20
  ·simp only [decide_eq_true c, if_true, decide_eq_false (show ¬ l.length ≤ 20 by omega), Bool.false_and]; exact Ev.now _
  ·simp only [decide_eq_false c, Bool.false_eq_true, if_false, decide_eq_true (show l.length ≤ 20 by omega), Bool.true_and]
   exact impl_clock_from l now hl l.length 0 (by omega) (by omega)
theorem to_clock (now : Int) (l : List S76) (hl : l.length ≤ 8796093022208) : Ev (fun k => laws_toClock.f k now l) (now, l.map timerOf) := by
 unfold laws_toClock.f
 exact Ev.bind (to_timers l hl) (Ev.now _)
theorem eq_clock (now : Int) (l : List S54) (hl : l.length ≤ 8796093022208) : Ev (fun k => laws_eqClock.f k now l now l) true := by
 unfold laws_eqClock.f
 simp only [if_true]
 refine Ev.bind (eq_timers l hl) ?_
 simp only [if_true]
 exact Ev.now true
/-! ### what is fired; marks in timers and in what is fired -/
theorem rd56 {l : List S56} {i : Nat} (h : i < l.length) : rd_T56 l (i : Int) = l[i] := by simp [rd_T56, h]
theorem eq_fired (l : List S56) (hl : l.length ≤ 8796093022208) : Ev (fun k => laws_eqFiredS.f k l l) true := by
 unfold laws_eqFiredS.f
 simp only [if_true]
 refine ev_trues (n := l.length) (fun k i => laws_eqFiredS.l0 k l l i) (fun _ _ => some true) (fun _ _ => Ev.now _) ?_ ?_
 ·intro k i hi
  simp only [laws_eqFiredS.l0, if_pos (show (i : Int) < (l.length : Int) by omega), if_pos (show (0 : Int) ≤ (i : Int) by omega), laws_eqFired.f, if_true, Option.bind_some, rd56 hi, succ_cast hi (by omega)]
 ·intro k
  simp only [laws_eqFiredS.l0, if_neg (show ¬ (l.length : Int) < (l.length : Int) by omega)]
theorem rdsT {xs : List S54} {i : Nat} (h : i < xs.length) (v : S54) : rd_T54 (xs.set i v) (i : Int) = v := by
 rw [rd82 (by rw [List.length_set]; exact h), List.getElem_set_self]
theorem rdsF {xs : List S56} {i : Nat} (h : i < xs.length) (v : S56) : rd_T56 (xs.set i v) (i : Int) = v := by
 rw [rd56 (by rw [List.length_set]; exact h), List.getElem_set_self]
def timerMark (m : Int) : S54 := ⟨m, m + 1, m + 1 + 1, m + 1 + 1 + 1⟩
def firedMark (m : Int) : S56 := ⟨m, m + 1⟩
def markedT (ys : List S54) (n : Nat) : Prop := ys.length = n ∧ ∀ j (h : j < ys.length), ys[j] = timerMark (1 + 4 * (j : Int))
def markedF (ys : List S56) (n : Nat) (m0 : Int) : Prop := ys.length = n ∧ ∀ j (h : j < ys.length), ys[j] = firedMark (m0 + 2 * (j : Int))
theorem mark_timers_from (n : Nat) (hn : n ≤ 1048576) (d : Nat) : ∀ (i : Nat) (xs : List S54) (m : Int), n - i = d → i ≤ n → xs.length = n → m = 1 + 4 * (i : Int) → (∀ j (h : j < xs.length), j < i → xs[j] = timerMark (1 + 4 * (j : Int))) → ∃ ys, markedT ys n ∧ Ev (fun k => laws_markTimerS.l0 k xs m (i : Int)) (1 + 4 * (n : Int), ys) := by
 induction d with
 | zero =>
  intro i xs m hd hi hx hm hj
  have : i = n := by omega
  refine ⟨xs, ⟨hx, fun j h => hj j h (by omega)⟩, ev_succ ?_⟩
  simp only [laws_markTimerS.l0, if_neg (show ¬ (i : Int) < (xs.length : Int) by omega)]
  rw [hm, this]
  exact Ev.now _
 | succ d ih =>
  intro i xs m hd hi hx hm hj
  have hlt : i < xs.length := by omega
  obtain ⟨ys, hm2, hy⟩ := ih (i + 1) (xs.set i (timerMark m)) (m + 1 + 1 + 1 + 1) (by omega) (by omega) (by simp only [List.length_set]; exact hx) (by omega) (by
   intro j h h2
   by_cases e : j = i
   ·subst e
    rw [List.getElem_set_self, hm]
   ·rw [List.getElem_set_ne (fun h => e h.symm)]
    exact hj j (by simpa using h) (by omega))
  refine ⟨ys, hm2, ev_succ ?_⟩
  have e1 : wrap64 (m + 1) = m + 1 := wrap_small (by omega) (by omega)
  have e2 : wrap64 (m + 1 + 1) = m + 1 + 1 := wrap_small (by omega) (by omega)
  have e3 : wrap64 (m + 1 + 1 + 1) = m + 1 + 1 + 1 := wrap_small (by omega) (by omega)
  have e4 : wrap64 (m + 1 + 1 + 1 + 1) = m + 1 + 1 + 1 + 1 := wrap_small (by omega) (by omega)
  simp only [laws_markTimerS.l0, if_pos (show (i : Int) < (xs.length : Int) by omega), if_pos (show (0 : Int) ≤ (i : Int) by omega), Option.bind_some, toNat_cast, List.set_set, rdsT hlt, e1, e2, e3, e4, succ_cast hlt (by omega)]
  exact hy
theorem mark_timers (l : List S54) (hl : l.length ≤ 1048576) : ∃ ys, markedT ys l.length ∧ Ev (fun k => laws_markTimerS.f k l 1) (1 + 4 * (l.length : Int), ys) :=
 mark_timers_from l.length hl l.length 0 l 1 (by omega) (by omega) rfl (by omega) (fun j h h2 => absurd h2 (Nat.not_lt_zero _))
theorem held_timers_from (ys : List S54) (n : Nat) (hy : markedT ys n) (hn : n ≤ 1048576) (d : Nat) : ∀ (i : Nat) (m : Int), n - i = d → i ≤ n → m = 1 + 4 * (i : Int) → Ev (fun k => laws_heldTimerS.l0 k ys m (i : Int)) (1 + 4 * (n : Int)) := by
 obtain ⟨h1, h2⟩ := hy
 induction d with
 | zero =>
  intro i m hd hi hm
  have : i = n := by omega
  refine ev_succ ?_
  simp only [laws_heldTimerS.l0, if_neg (show ¬ (i : Int) < (ys.length : Int) by omega)]
  rw [hm, this]
  exact Ev.now _
 | succ d ih =>
  intro i m hd hi hm
  have hlt : i < ys.length := by omega
  have g : ys[i] = timerMark m := by rw [h2 i hlt, hm]
  have e1 : wrap64 (m + 1) = m + 1 := wrap_small (by omega) (by omega)
  have e2 : wrap64 (m + 1 + 1) = m + 1 + 1 := wrap_small (by omega) (by omega)
  have e3 : wrap64 (m + 1 + 1 + 1) = m + 1 + 1 + 1 := wrap_small (by omega) (by omega)
  have e4 : wrap64 (m + 1 + 1 + 1 + 1) = m + 1 + 1 + 1 + 1 := wrap_small (by omega) (by omega)
  refine ev_succ ?_
  simp only [laws_heldTimerS.l0, if_pos (show (i : Int) < (ys.length : Int) by omega), if_pos (show (0 : Int) ≤ (i : Int) by omega), rd82 hlt, g, timerMark, e1, e2, e3, e4, succ_cast hlt (by omega), if_true]
  exact ih (i + 1) _ (by omega) (by omega) (by omega)
theorem mark_fired_from (n : Nat) (m0 : Int) (h0 : 0 ≤ m0) (h1 : m0 ≤ 1099511627776) (hn : n ≤ 1048576) (d : Nat) : ∀ (i : Nat) (xs : List S56) (m : Int), n - i = d → i ≤ n → xs.length = n → m = m0 + 2 * (i : Int) → (∀ j (h : j < xs.length), j < i → xs[j] = firedMark (m0 + 2 * (j : Int))) → ∃ ys, markedF ys n m0 ∧ Ev (fun k => laws_markFiredS.l0 k xs m (i : Int)) (m0 + 2 * (n : Int), ys) := by
 induction d with
 | zero =>
  intro i xs m hd hi hx hm hj
  have : i = n := by omega
  refine ⟨xs, ⟨hx, fun j h => hj j h (by omega)⟩, ev_succ ?_⟩
  simp only [laws_markFiredS.l0, if_neg (show ¬ (i : Int) < (xs.length : Int) by omega)]
  rw [hm, this]
  exact Ev.now _
 | succ d ih =>
  intro i xs m hd hi hx hm hj
  have hlt : i < xs.length := by omega
  obtain ⟨ys, hm2, hy⟩ := ih (i + 1) (xs.set i (firedMark m)) (m + 1 + 1) (by omega) (by omega) (by simp only [List.length_set]; exact hx) (by omega) (by
   intro j h h2
   by_cases e : j = i
   ·subst e
    rw [List.getElem_set_self, hm]
   ·rw [List.getElem_set_ne (fun h => e h.symm)]
    exact hj j (by simpa using h) (by omega))
  refine ⟨ys, hm2, ev_succ ?_⟩
  have e1 : wrap64 (m + 1) = m + 1 := wrap_small (by omega) (by omega)
  have e2 : wrap64 (m + 1 + 1) = m + 1 + 1 := wrap_small (by omega) (by omega)
  simp only [laws_markFiredS.l0, if_pos (show (i : Int) < (xs.length : Int) by omega), if_pos (show (0 : Int) ≤ (i : Int) by omega), Option.bind_some, toNat_cast, List.set_set, rdsF hlt, e1, e2, succ_cast hlt (by omega)]
  exact hy
theorem mark_fired (l : List S56) (m0 : Int) (h0 : 0 ≤ m0) (h1 : m0 ≤ 1099511627776) (hl : l.length ≤ 1048576) : ∃ ys, markedF ys l.length m0 ∧ Ev (fun k => laws_markFiredS.f k l m0) (m0 + 2 * (l.length : Int), ys) :=
 mark_fired_from l.length m0 h0 h1 hl l.length 0 l m0 (by omega) (by omega) rfl (by omega) (fun j h h2 => absurd h2 (Nat.not_lt_zero _))
theorem held_fired_from (ys : List S56) (n : Nat) (m0 : Int) (h0 : 0 ≤ m0) (hm0 : m0 ≤ 1099511627776) (hy : markedF ys n m0) (hn : n ≤ 1048576) (d : Nat) : ∀ (i : Nat) (m : Int), n - i = d → i ≤ n → m = m0 + 2 * (i : Int) → Ev (fun k => laws_heldFiredS.l0 k ys m (i : Int)) (m0 + 2 * (n : Int)) := by
 obtain ⟨h1, h2⟩ := hy
 induction d with
 | zero =>
  intro i m hd hi hm
  have : i = n := by omega
  refine ev_succ ?_
  simp only [laws_heldFiredS.l0, if_neg (show ¬ (i : Int) < (ys.length : Int) by omega)]
  rw [hm, this]
  exact Ev.now _
 | succ d ih =>
  intro i m hd hi hm
  have hlt : i < ys.length := by omega
  have g : ys[i] = firedMark m := by rw [h2 i hlt, hm]
  have e1 : wrap64 (m + 1) = m + 1 := wrap_small (by omega) (by omega)
  have e2 : wrap64 (m + 1 + 1) = m + 1 + 1 := wrap_small (by omega) (by omega)
  refine ev_succ ?_
  simp only [laws_heldFiredS.l0, if_pos (show (i : Int) < (ys.length : Int) by omega), if_pos (show (0 : Int) ≤ (i : Int) by omega), rd56 hlt, g, firedMark, e1, e2, succ_cast hlt (by omega), if_true]
  exact ih (i + 1) _ (by omega) (by omega) (by omega)
theorem mark_clock (now : Int) (l : List S54) (hl : l.length ≤ 1048576) : ∃ ys, markedT ys l.length ∧ Ev (fun k => laws_markClock.f k now l 1) (1 + 4 * (l.length : Int), ys) := by
 obtain ⟨ys, h, e⟩ := mark_timers l hl
 refine ⟨ys, h, ?_⟩
 unfold laws_markClock.f
 exact Ev.bind e (Ev.now _)
theorem held_clock (now : Int) (ys : List S54) (n : Nat) (hy : markedT ys n) (hn : n ≤ 1048576) : Ev (fun k => laws_heldClock.f k now ys 1) (1 + 4 * (n : Int)) := by
 unfold laws_heldClock.f laws_heldTimerS.f
 refine Ev.bind (held_timers_from ys n hy hn n 0 1 (by omega) (by omega) (by omega)) ?_
 simp only [if_neg (show ¬ 1 + 4 * (n : Int) < 0 by omega)]
 exact Ev.now _
theorem held_fired (ys : List S56) (n : Nat) (m0 : Int) (h0 : 0 ≤ m0) (h1 : m0 ≤ 1099511627776) (hy : markedF ys n m0) (hn : n ≤ 1048576) : Ev (fun k => laws_heldFiredS.f k ys m0) (m0 + 2 * (n : Int)) := by
 unfold laws_heldFiredS.f
 exact held_fired_from ys n m0 h0 h1 hy hn n 0 m0 (by omega) (by omega) (by omega)
/-! ### the clock run: rounds that take the earliest timer -/
def nx (l : List S54) (u : Int) : Nat → Nat → Int → Int
 | 0, _, x => x
 | d + 1, i, x => nx l u d (i + 1) (if (rd_T54 l (i : Int)).f1 ≤ u then (if x < 0 then (i : Int) else (if (rd_T54 l (i : Int)).f1 < (rd_T54 l x).f1 then (i : Int) else x)) else x)
theorem nx_in (l : List S54) (u : Int) (d : Nat) : ∀ (i : Nat) (x : Int), d + i = l.length → -1 ≤ x → x < (l.length : Int) → -1 ≤ nx l u d i x ∧ nx l u d i x < (l.length : Int) := by
 induction d with
 | zero => intro i x _ h0 h1; exact ⟨h0, h1⟩
 | succ d ih =>
  intro i x hd h0 h1
  unfold nx
  refine ih (i + 1) _ (by omega) ?_ ?_
  ·split
   ·split
    ·omega
    ·split <;> omega
   ·exact h0
  ·split
   ·split
    ·omega
    ·split <;> omega
   ·exact h1
theorem spec_scan {l : List S54} {u : Int} {out : List S56} {R : Int × List S54 × List S56 × Bool} (hl : l.length ≤ 1048576) (d : Nat) : ∀ (i : Nat) (x : Int), d + i = l.length → -1 ≤ x → x < (l.length : Int) →
  Ev (fun k => spec_RunClock.l1 k u l out (nx l u d i x) l (l.length : Int) (l.length : Int)) R → Ev (fun k => spec_RunClock.l1 k u l out x l (l.length : Int) (i : Int)) R := by
 induction d with
 | zero =>
  intro i x hd _ _ h
  obtain rfl : i = l.length := by omega
  exact h
 | succ d ih =>
  intro i x hd h0 h1 h
  have hlt : i < l.length := by omega
  refine ev_succ ?_
  unfold nx at h
  simp only [spec_RunClock.l1, if_pos (show (i : Int) < (l.length : Int) by omega), if_pos (show (0 : Int) ≤ (i : Int) by omega), succ_cast hlt (by omega)]
  by_cases c1 : (rd_T54 l (i : Int)).f1 ≤ u
  ·simp only [if_pos c1] at h ⊢
   by_cases c2 : x < 0
   ·simp only [if_pos c2] at h ⊢
    exact ih (i + 1) _ (by omega) (by omega) (by omega) h
   ·simp only [if_neg c2, if_pos (show 0 ≤ x by omega), if_pos h1] at h ⊢
    by_cases c3 : (rd_T54 l (i : Int)).f1 < (rd_T54 l x).f1
    ·simp only [if_pos c3] at h ⊢
     exact ih (i + 1) _ (by omega) (by omega) (by omega) h
    ·simp only [if_neg c3] at h ⊢
     exact ih (i + 1) _ (by omega) h0 h1 h
  ·simp only [if_neg c1] at h ⊢
   exact ih (i + 1) _ (by omega) h0 h1 h
theorem impl_scan {l : List S54} {u : Int} {out : List S56} {R : Int × List S54 × List S56 × Bool} (hl : l.length ≤ 1048576) (d : Nat) : ∀ (i : Nat) (x : Int), d + i = l.length → -1 ≤ x → x < (l.length : Int) →
  Ev (fun k => impl_RunClock.l1 k u l out (nx l u d i x) l (l.length : Int) (l.length : Int)) R → Ev (fun k => impl_RunClock.l1 k u l out x l (l.length : Int) (i : Int)) R := by
 induction d with
 | zero =>
  intro i x hd _ _ h
  obtain rfl : i = l.length := by omega
  exact h
 | succ d ih =>
  intro i x hd h0 h1 h
  have hlt : i < l.length := by omega
  refine ev_succ ?_
  unfold nx at h
  simp only [impl_RunClock.l1, if_pos (show (i : Int) < (l.length : Int) by omega), if_pos (show (0 : Int) ≤ (i : Int) by omega), succ_cast hlt (by omega)]
  by_cases c1 : (rd_T54 l (i : Int)).f1 ≤ u
  ·simp only [if_pos c1] at h ⊢
   by_cases c2 : x < 0
   ·simp only [if_pos c2] at h ⊢
    exact ih (i + 1) _ (by omega) (by omega) (by omega) h
   ·simp only [if_neg c2, if_pos (show 0 ≤ x by omega), if_pos h1] at h ⊢
    by_cases c3 : (rd_T54 l (i : Int)).f1 < (rd_T54 l x).f1
    ·simp only [if_pos c3] at h ⊢
     exact ih (i + 1) _ (by omega) (by omega) (by omega) h
    ·simp only [if_neg c3] at h ⊢
     exact ih (i + 1) _ (by omega) h0 h1 h
  ·simp only [if_neg c1] at h ⊢
   exact ih (i + 1) _ (by omega) h0 h1 h
def fireAt (l : List S54) (x : Int) : S56 := ⟨(rd_T54 l x).f1, (rd_T54 l x).f0⟩
def later (y : List S54) (x : Int) : List S54 := y.set x.toNat ⟨(rd_T54 y x).f0, wrap64 ((rd_T54 y x).f1 + (rd_T54 y x).f2), (rd_T54 y x).f2, (rd_T54 y x).f3⟩
def fewer (l : List S54) (x : Int) : List S54 := l.set x.toNat ⟨(rd_T54 l x).f0, (rd_T54 l x).f1, (rd_T54 l x).f2, wrap64 ((rd_T54 l x).f3 - 1)⟩
def stepL (l : List S54) (x : Int) : List S54 := if (rd_T54 l x).f2 > 0 then (if (rd_T54 l x).f3 > 1 then later (fewer l x) x else l.eraseIdx x.toNat) else l.eraseIdx x.toNat
theorem stepL_le (l : List S54) (x : Int) : (stepL l x).length ≤ l.length := by
 unfold stepL later fewer
 split
 ·split
  ·rw [List.length_set, List.length_set]; exact Nat.le_refl _
  ·rw [List.length_eraseIdx]; split <;> omega
 ·rw [List.length_eraseIdx]; split <;> omega
def runV : Nat → Int → List S54 → List S56 → Int × List S54 × List S56 × Bool
 | 0, u, l, out => if nx l u l.length 0 (-1) < 0 then (u, l, out, true) else (0, [], [], false)
 | d + 1, u, l, out => if nx l u l.length 0 (-1) < 0 then (u, l, out, true) else runV d u (stepL l (nx l u l.length 0 (-1))) (out ++ [fireAt l (nx l u l.length 0 (-1))])
theorem runV_le (u : Int) (d : Nat) : ∀ (l : List S54) (out : List S56), (runV d u l out).2.1.length ≤ l.length ∧ (runV d u l out).2.2.1.length ≤ out.length + d := by
 induction d with
 | zero =>
  intro l out
  unfold runV
  split
  ·exact ⟨Nat.le_refl _, Nat.le_refl _⟩
  ·exact ⟨Nat.zero_le _, Nat.zero_le _⟩
 | succ d ih =>
  intro l out
  unfold runV
  split
  ·exact ⟨Nat.le_refl _, Nat.le_add_right _ _⟩
  ·have h := ih (stepL l (nx l u l.length 0 (-1))) (out ++ [fireAt l (nx l u l.length 0 (-1))])
   have h2 := stepL_le l (nx l u l.length 0 (-1))
   rw [List.length_append, List.length_singleton] at h
   exact ⟨by omega, by omega⟩
theorem spec_rounds (u : Int) (d : Nat) : ∀ (l : List S54) (out : List S56), out.length + d = 2000 → l.length ≤ 1048576 → Ev (fun k => spec_RunClock.l0 k u l out) (runV d u l out) := by
 induction d with
 | zero =>
  intro l out hd hl
  refine ev_succ ?_
  simp only [spec_RunClock.l0]
  refine spec_scan hl l.length 0 (-1) (by omega) (by omega) (by omega) ?_
  unfold runV
  generalize nx l u l.length 0 (-1) = x at *
  refine ev_succ ?_
  simp only [spec_RunClock.l1, if_neg (show ¬ (l.length : Int) < (l.length : Int) by omega)]
  by_cases c : x < 0
  ·simp only [if_pos c]; exact Ev.now _
  ·simp only [if_neg c, if_pos (show (out.length : Int) = 2000 by omega)]; exact Ev.now _
 | succ d ih =>
  intro l out hd hl
  refine ev_succ ?_
  simp only [spec_RunClock.l0]
  refine spec_scan hl l.length 0 (-1) (by omega) (by omega) (by omega) ?_
  have hx := nx_in l u l.length 0 (-1) (by omega) (by omega) (by omega)
  unfold runV
  generalize nx l u l.length 0 (-1) = x at *
  refine ev_succ ?_
  simp only [spec_RunClock.l1, if_neg (show ¬ (l.length : Int) < (l.length : Int) by omega)]
  by_cases c : x < 0
  ·simp only [if_pos c]; exact Ev.now _
  ·have hs := stepL_le l x
   have hn := ih (stepL l x) (out ++ [fireAt l x]) (by rw [List.length_append, List.length_singleton]; omega) (by omega)
   simp only [if_neg c, if_neg (show ¬ (out.length : Int) = 2000 by omega), if_pos (show 0 ≤ x by omega), if_pos hx.2, if_pos (show out.length < 8796093022208 by omega), Option.bind_some, if_pos (show x ≤ (l.length : Int) by omega), wrap_small (i := x + 1) (by omega) (by omega), if_pos (show 0 ≤ x + 1 by omega), if_pos (show x + 1 ≤ (l.length : Int) by omega)]
   unfold stepL at hn ⊢
   by_cases c2 : (rd_T54 l x).f2 > 0
   ·by_cases c3 : (rd_T54 l x).f3 > 1
    ·simp only [if_pos c2, if_pos c3] at hn ⊢; exact hn
    ·simp only [if_pos c2, if_neg c3] at hn ⊢; exact hn
   ·simp only [if_neg c2] at hn ⊢; exact hn
theorem impl_rounds (u : Int) (d : Nat) : ∀ (l : List S54) (out : List S56), out.length + d = 2000 → l.length ≤ 1048576 → Ev (fun k => impl_RunClock.l0 k u l out) (runV d u l out) := by
 induction d with
 | zero =>
  intro l out hd hl
  refine ev_succ ?_
  simp only [impl_RunClock.l0]
  refine impl_scan hl l.length 0 (-1) (by omega) (by omega) (by omega) ?_
  have hx := nx_in l u l.length 0 (-1) (by omega) (by omega) (by omega)
  unfold runV
  generalize nx l u l.length 0 (-1) = x at *
  refine ev_succ ?_
  simp only [impl_RunClock.l1, if_neg (show ¬ (l.length : Int) < (l.length : Int) by omega)]
  by_cases c : x < 0
  ·simp only [if_pos c]; exact Ev.now _
  ·simp only [if_neg c, if_pos (show 0 ≤ x by omega), if_pos hx.2, if_pos (show out.length < 8796093022208 by omega), Option.bind_some, List.length_append, List.length_singleton, if_pos (show ((out.length + 1 : Nat) : Int) > 2000 by omega)]
   exact Ev.now _
 | succ d ih =>
  intro l out hd hl
  refine ev_succ ?_
  simp only [impl_RunClock.l0]
  refine impl_scan hl l.length 0 (-1) (by omega) (by omega) (by omega) ?_
  have hx := nx_in l u l.length 0 (-1) (by omega) (by omega) (by omega)
  unfold runV
  generalize nx l u l.length 0 (-1) = x at *
  refine ev_succ ?_
  simp only [impl_RunClock.l1, if_neg (show ¬ (l.length : Int) < (l.length : Int) by omega)]
  by_cases c : x < 0
  ·simp only [if_pos c]; exact Ev.now _
  ·have hs := stepL_le l x
   have hn := ih (stepL l x) (out ++ [fireAt l x]) (by rw [List.length_append, List.length_singleton]; omega) (by omega)
   simp only [if_neg c, if_pos (show 0 ≤ x by omega), if_pos hx.2, if_pos (show out.length < 8796093022208 by omega), Option.bind_some, List.length_append, List.length_singleton, if_neg (show ¬ ((out.length + 1 : Nat) : Int) > 2000 by omega), if_pos (show x ≤ (l.length : Int) by omega), wrap_small (i := x + 1) (by omega) (by omega), if_pos (show 0 ≤ x + 1 by omega), if_pos (show x + 1 ≤ (l.length : Int) by omega)]
   unfold stepL at hn ⊢
   by_cases c2 : (rd_T54 l x).f2 > 0
   ·by_cases c3 : (rd_T54 l x).f3 > 1
    ·simp only [if_pos c2, if_pos c3] at hn ⊢; exact hn
    ·simp only [if_pos c2, if_neg c3] at hn ⊢; exact hn
   ·simp only [if_neg c2] at hn ⊢; exact hn
def clockRun (now : Int) (l : List S54) (u : Int) : Int × List S54 × List S56 × Bool := if clockB now l = true then (if inB u now 100000 = true then runV 2000 u l [] else (0, [], [], false)) else (0, [], [], false)
theorem spec_run_bad (now u : Int) (l : List S54) : Ev (fun k => spec_RunClock.j0 k u true now l) (0, [], [], false) := by
 refine ev_succ ?_
 simp only [spec_RunClock.j0, if_true]; exact Ev.now _
theorem impl_run_bad (now u : Int) (l : List S54) : Ev (fun k => impl_RunClock.j0 k u true now l) (0, [], [], false) := by
 refine ev_succ ?_
 simp only [impl_RunClock.j0, if_true]; exact Ev.now _
theorem spec_run (now u : Int) (l : List S54) (hl : l.length ≤ 1048576) : Ev (fun k => spec_RunClock.f k now l u) (clockRun now l u) := by
 unfold spec_RunClock.f clockRun
 refine Ev.bind (spec_clock now l (by omega)) ?_
 cases clockB now l with
 | false => simp only [Bool.false_eq_true, if_false]; exact spec_run_bad now u l
 | true =>
  simp only [if_true, spec_in, Option.bind_some]
  cases inB u now 100000 with
  | false => simp only [Bool.false_eq_true, if_false, Bool.not_false]; exact spec_run_bad now u l
  | true =>
   simp only [if_true, Bool.not_true]
   refine ev_succ ?_
   simp only [spec_RunClock.j0, Bool.false_eq_true, if_false, Option.bind_some, List.nil_append, List.length_nil, if_pos (show 0 + l.length < 4398046511104 by omega)]
   exact spec_rounds u 2000 l [] (by rw [List.length_nil]) hl
theorem impl_run (now u : Int) (l : List S54) (hl : l.length ≤ 1048576) : Ev (fun k => impl_RunClock.f k now l u) (clockRun now l u) := by
 unfold impl_RunClock.f clockRun
 refine Ev.bind (impl_clock now l (by omega)) ?_
 cases clockB now l with
 | false => simp only [Bool.false_eq_true, if_false]; exact impl_run_bad now u l
 | true =>
  simp only [if_true, impl_in, Option.bind_some]
  cases inB u now 100000 with
  | false => simp only [Bool.false_eq_true, if_false, Bool.not_false]; exact impl_run_bad now u l
  | true =>
   simp only [if_true, Bool.not_true]
   refine ev_succ ?_
   simp only [impl_RunClock.j0, Bool.false_eq_true, if_false, impl_Timer_30.f, if_pos (show l.length < 4398046511104 by omega), Option.bind_some]
   exact impl_rounds u 2000 l [] (by rw [List.length_nil]) hl
theorem clockRun_le (now u : Int) (l : List S54) : (clockRun now l u).2.1.length ≤ l.length ∧ (clockRun now l u).2.2.1.length ≤ 2000 := by
 unfold clockRun
 split
 ·split
  ·have h := runV_le u 2000 l []
   rw [List.length_nil] at h
   exact ⟨h.1, by omega⟩
  ·exact ⟨Nat.zero_le _, Nat.zero_le _⟩
 ·exact ⟨Nat.zero_le _, Nat.zero_le _⟩
theorem FnExactRunClock : laws_FnExactRunClock_Pure := by
 intro now l u _ hl _
 have h1 : l.length ≤ 8796093022208 := by omega
 apply Ev.rounds (r := true)
 unfold laws_FnExactRunClock.f laws_szClock.f laws_szTimerS.f
 by_cases h : wrap64 (1048576 - (l.length : Int)) < 0
 ·simp only [if_pos h, Option.bind_some, show (-1 : Int) < 0 from by decide, if_true]
  exact Ev.now true
 ·have hL : l.length ≤ 1048576 := by
   rw [wrap_small (by omega) (by omega)] at h; omega
  simp only [if_neg h, Option.bind_some]
  have hk := to_clock now l h1
  have h2 : (l.map timerOf).length ≤ 1048576 := by rw [List.length_map]; exact hL
  generalize l.map timerOf = s at *
  have hp := clockRun_le now u s
  have hsp := spec_run now u s h2
  have him := impl_run now u s h2
  generalize clockRun now s u = pv at *
  obtain ⟨v1, v2, v3, v4⟩ := pv
  have hp1 : v2.length ≤ 1048576 := Nat.le_trans hp.1 h2
  have hp2 : v3.length ≤ 1048576 := Nat.le_trans hp.2 (by omega)
  have hev := eq_clock v1 v2 (by omega)
  have hef := eq_fired v3 (by omega)
  obtain ⟨zs, _, hms⟩ := mark_clock now s h2
  obtain ⟨ys, hmk, hmp⟩ := mark_clock v1 v2 hp1
  obtain ⟨fs, hfk, hfp⟩ := mark_fired v3 (1 + 4 * (v2.length : Int)) (by omega) (by omega) hp2
  have hh := held_clock v1 ys v2.length hmk hp1
  have hf := held_fired fs v3.length (1 + 4 * (v2.length : Int)) (by omega) (by omega) hfk hp2
  refine Ev.bind hk (Ev.bind hsp (Ev.bind hk (Ev.bind him (Ev.bind hev ?_))))
  simp only [if_true, bne_self_eq_false]
  refine Ev.bind hef ?_
  simp only [if_true]
  refine ev_succ ?_
  simp only [laws_FnExactRunClock.j0, Bool.false_eq_true, if_false]
  refine Ev.bind hk (Ev.bind (eq_clock now s (by omega)) ?_)
  simp only [if_true]
  refine Ev.bind hms ?_
  simp only [if_neg (show ¬ (1 + 4 * (s.length : Int) < 0) by omega)]
  refine Ev.bind hev ?_
  simp only [if_true, bne_self_eq_false]
  refine Ev.bind hef ?_
  simp only [if_true]
  refine ev_succ ?_
  simp only [laws_FnExactRunClock.j1, Bool.false_eq_true, if_false]
  refine Ev.bind hmp (Ev.bind hfp (Ev.bind hh ?_))
  simp only [if_neg (show ¬ (1 + 4 * (v2.length : Int) < 0) by omega)]
  refine Ev.bind hf ?_
  simp only [if_neg (show ¬ (1 + 4 * (v2.length : Int) + 2 * (v3.length : Int) < 0) by omega), if_true]
  refine Ev.bind hk (Ev.bind him (Ev.bind hev ?_))
  simp only [if_true, bne_self_eq_false]
  refine Ev.bind hef ?_
  simp only [if_true]
  refine ev_succ ?_
  simp only [laws_FnExactRunClock.j2, Bool.false_eq_true, if_false]
  refine Ev.bind hh ?_
  simp only [if_neg (show ¬ (1 + 4 * (v2.length : Int) < 0) by omega)]
  refine Ev.bind hf ?_
  simp only [if_neg (show ¬ (1 + 4 * (v2.length : Int) + 2 * (v3.length : Int) < 0) by omega), if_true]
  exact Ev.now true
end Go.Proofs.Ytcdchmdkcdlklaa.Pure
