/- The program's KindsOf and the reference's answer alike at every world, and the answer is kinds of its own. No condition. -/
import Derived.Test.YtiaajmnmbjheoaaPFnExactKindsOfx13
namespace Go.Proofs.Ytiaajmnmbjheoaa.Pure
open Go.RowKit Go.Proofs.Ytiaajmnmbjheoaa.PFnExactKindsOf Go.Proofs.YtiaajmnmbjheoaaW.PrintWords Go.Proofs.YtiaajmnmbjheoaaW.PrintLast Go.Proofs.YtiaajmnmbjheoaaW.PrintMore
set_option linter.unusedVariables false
set_option linter.unusedSimpArgs false
/-- What can be read as a datum of type 180. -/
def Good180 (x : S180) : Prop := ByteArray.size x.f0 ≤ 140737488351232 ∧ (Lit.int .i64 x.f1).wf = true ∧ (Lit.int .i64 x.f2).wf = true
/-- What can be read as a datum of type 133. -/
def Good133 (x : S133) : Prop := (Lit.int .i64 x.f0).wf = true ∧ (List.length x.f1 ≤ maxLen ∧ List.length x.f1 * 32 ≤ 140737488351232 ∧ ∀ y ∈ x.f1, Good180 y)
/-- The one pure statement. -/
def laws_FnExactKindsOf_Pure : Prop := ∀ (a0_0 : Int) (a0_1 : Int) (l0_2 : (List S133)), (Lit.int .i64 a0_0).wf = true → (Lit.int .i64 a0_1).wf = true → (List.length l0_2 ≤ maxLen ∧ List.length l0_2 * 32 ≤ 140737488351232 ∧ ∀ y ∈ l0_2, Good133 y) → ∃ k, laws_FnExactKindsOf.f k a0_0 a0_1 l0_2 = some true
/-! #### whole numbers: wraps, quotients towards nought -/
theorem wrap_small {i : Int} (h0 : -9223372036854775808 ≤ i) (h1 : i ≤ 9223372036854775807) : wrap64 i = i := by unfold wrap64; omega
theorem tdiv_pos {a b : Int} (ha : 0 ≤ a) : Int.tdiv a b = a / b := Int.tdiv_eq_ediv_of_nonneg ha
theorem tmod_pos {a b : Int} (ha : 0 ≤ a) : Int.tmod a b = a % b := Int.tmod_eq_emod_of_nonneg ha
theorem tdiv_neg' {a b : Int} (ha : a < 0) : Int.tdiv a b = -((-a) / b) := by
 rw [← Int.tdiv_eq_ediv_of_nonneg (a := -a) (by omega), Int.neg_tdiv, Int.neg_neg]
theorem tmod_neg' {a b : Int} (ha : a < 0) : Int.tmod a b = -((-a) % b) := by
 rw [← Int.tmod_eq_emod_of_nonneg (a := -a) (by omega), Int.neg_tmod, Int.neg_neg]
theorem wf64 {a : Int} (h : (Lit.int .i64 a).wf = true) : -9223372036854775808 ≤ a ∧ a ≤ 9223372036854775807 := by
 simp [Lit.wf, IntKind.min, IntKind.max, IntKind.signed, IntKind.bits] at h
 omega
theorem ev_succ {α : Type} {g : Nat → Option α} {r : α} (h : Ev (fun k => g (k + 1)) r) : Ev g r := Ev.step (f := fun k => g (k + 1)) (fun _ => rfl) h
theorem ev_eq {α : Type} {g : Nat → Option α} {r : α} (h : ∀ k, g k = some r) : Ev g r := ⟨0, fun k _ => h k⟩
theorem ev_val {α : Type} {g : Nat → Option α} {r r' : α} (h : Ev g r) (e : r = r') : Ev g r' := e ▸ h
/-! #### is a number in a span -/
def inB (a b c : Int) : Bool := decide (b ≤ a ∧ a ≤ c)
theorem inB_iff {a b c : Int} : inB a b c = true ↔ b ≤ a ∧ a ≤ c := by unfold inB; rw [decide_eq_true_eq]
theorem spec_in (a b c : Int) : spec_l1In.f a b c = some (inB a b c) := by
 unfold spec_l1In.f inB
 by_cases h : a ≥ b
 ·rw [if_pos h]; congr 1; rw [decide_eq_decide]; omega
 ·rw [if_neg h]; congr 1; exact (decide_eq_false (by omega)).symm
theorem impl_in (a b c : Int) : impl_inRange.f a b c = some (inB a b c) := by
 unfold impl_inRange.f inB
 by_cases h : b ≤ a
 ·rw [if_pos h]; congr 1; rw [decide_eq_decide]; omega
 ·rw [if_neg h]; congr 1; exact (decide_eq_false (by omega)).symm
/-! #### loops that go up, from a place on -/
theorem Ev_up {σ ρ : Type} (g : Nat → Nat → σ → Option ρ) (n : Nat) (Inv : Nat → σ → Prop) (Post : ρ → Prop)
  (hend : ∀ s, Inv n s → ∃ r, Ev (fun k => g k n s) r ∧ Post r)
  (hstep : ∀ i s, i < n → Inv i s → (∃ r, Ev (fun k => g k i s) r ∧ Post r) ∨ (∃ s', Inv (i + 1) s' ∧ ∀ r, Ev (fun k => g k (i + 1) s') r → Ev (fun k => g k i s) r))
  (d : Nat) : ∀ i s, n - i = d → i ≤ n → Inv i s → ∃ r, Ev (fun k => g k i s) r ∧ Post r := by
 induction d with
 | zero =>
  intro i s hd hi hs
  obtain rfl : i = n := by omega
  exact hend s hs
 | succ d ih =>
  intro i s hd hi hs
  rcases hstep i s (by omega) hs with h | ⟨s', hs', hg⟩
  ·exact h
  ·obtain ⟨r, hr, hp⟩ := ih (i + 1) s' (by omega) (by omega) hs'
   exact ⟨r, hg r hr, hp⟩
theorem succ_cast {i n : Nat} (h : i < n) (hn : n ≤ 9223372036854775806) : wrap64 ((i : Int) + 1) = ((i + 1 : Nat) : Int) := by
 rw [wrap_small (by omega) (by omega)]; omega
theorem drop_cons {α : Type} {l : List α} {i : Nat} (h : i < l.length) : l.drop i = l[i] :: l.drop (i + 1) := List.drop_eq_getElem_cons h
theorem rd_at {l : List Int} {i : Nat} (h : i < l.length) : rd l (i : Int) = l[i] := by simp [rd, h]
/-! #### loops that copy and loops that compare -/
theorem set_step {α β : Type} (g : α → β) (z : β) (l : List α) (i : Nat) (hi : i < l.length) : ((l.take i).map g ++ List.replicate (l.length - i) z).set i (g l[i]) = (l.take (i + 1)).map g ++ List.replicate (l.length - (i + 1)) z := by
 have e : l.length - i = (l.length - (i + 1)) + 1 := by omega
 have hl : ((l.take i).map g).length = i := by rw [List.length_map, List.length_take]; omega
 rw [e, List.replicate_succ, List.set_append_right _ _ (by omega), hl, Nat.sub_self, List.set_cons_zero, List.take_succ_eq_append_getElem hi, List.map_append, List.append_assoc]
 rfl
/-- A loop that sets each place of a fresh list. -/
theorem ev_map {α β : Type} (l : List α) (z : β) (g : α → β) (F : Nat → List β → Int → Option (List β)) (G : Nat → α → Option β) (hG : ∀ i (hi : i < l.length), Ev (fun k => G k l[i]) (g l[i]))
  (hstep : ∀ k (x : List β) (i : Nat) (hi : i < l.length), x.length = l.length → F (k + 1) x (i : Int) = (G k l[i]).bind fun v => F k (x.set i v) ((i + 1 : Nat) : Int))
  (hend : ∀ k (x : List β), F (k + 1) x (l.length : Int) = some x) : Ev (fun k => F k (List.replicate l.length z) 0) (l.map g) := by
 have main : ∀ d i, l.length - i = d → i ≤ l.length → Ev (fun k => F k ((l.take i).map g ++ List.replicate (l.length - i) z) (i : Int)) (l.map g) := by
  intro d
  induction d with
  | zero =>
   intro i hd hi
   obtain rfl : i = l.length := by omega
   refine ev_succ ?_
   simp only [hend, Nat.sub_self, List.replicate_zero, List.append_nil, List.take_length]
   exact Ev.now _
  | succ d ih =>
   intro i hd hi
   have hlt : i < l.length := by omega
   refine ev_succ ?_
   have hx : ((l.take i).map g ++ List.replicate (l.length - i) z).length = l.length := by
    rw [List.length_append, List.length_map, List.length_take, List.length_replicate]; omega
   simp only [hstep _ _ i hlt hx]
   refine Ev.bind (hG i hlt) ?_
   simp only [set_step g z l i hlt]
   exact ih (i + 1) (by omega) (by omega)
 have := main l.length 0 (by omega) (by omega)
 simp only [List.take_zero, List.map_nil, List.nil_append, Nat.sub_zero] at this
 exact this
/-- A loop that asks each place, and every place answers true. -/
theorem ev_trues {n : Nat} (F : Nat → Int → Option Bool) (G : Nat → Nat → Option Bool) (hG : ∀ i, i < n → Ev (fun k => G k i) true)
  (hstep : ∀ k (i : Nat), i < n → F (k + 1) (i : Int) = (G k i).bind fun t => if t = true then F k ((i + 1 : Nat) : Int) else some false)
  (hend : ∀ k, F (k + 1) (n : Int) = some true) : Ev (fun k => F k 0) true := by
 have main : ∀ d i, n - i = d → i ≤ n → Ev (fun k => F k (i : Int)) true := by
  intro d
  induction d with
  | zero =>
   intro i hd hi
   obtain rfl : i = n := by omega
   refine ev_succ ?_
   simp only [hend]
   exact Ev.now _
  | succ d ih =>
   intro i hd hi
   refine ev_succ ?_
   simp only [hstep _ i (show i < n by omega)]
   refine Ev.bind (hG i (by omega)) ?_
   simp only [if_true]
   exact ih (i + 1) (by omega) (by omega)
 exact main n 0 (by omega) (by omega)
theorem toNat_cast (i : Nat) : ((i : Int)).toNat = i := Int.toNat_natCast i
/-! #### names -/
/-- one byte of a name: a letter or an underscore -/
def letterB (c : Int) : Bool := decide (97 ≤ c ∧ c ≤ 122) || decide (65 ≤ c ∧ c ≤ 90) || decide (c = 95)
def digitB (c : Int) : Bool := decide (48 ≤ c ∧ c ≤ 57)
/-- what a good name is -/
def NameOk (s : ByteArray) : Prop := 1 ≤ s.size ∧ s.size ≤ 20 ∧ ∀ j, j < s.size → (letterB (bt s (j : Nat)) = true ∨ (j ≠ 0 ∧ digitB (bt s (j : Nat)) = true))
instance (s : ByteArray) : Decidable (NameOk s) := by unfold NameOk; infer_instance
def nameB (s : ByteArray) : Bool := decide (NameOk s)
theorem spec_digit (c : Int) : spec_l1Digit.f c = some (digitB c) := by
 unfold spec_l1Digit.f digitB
 by_cases h : c ≥ 48
 ·rw [if_pos h]; congr 1; simp; omega
 ·rw [if_neg h]; congr 1; simp; omega
theorem spec_letter (c : Int) : spec_l1Letter.f c = some (letterB c) := by
 unfold spec_l1Letter.f letterB
 repeat' split
 all_goals (congr 1; rw [Bool.eq_iff_iff]; simp; try omega)
theorem impl_digit (c : Int) : impl_isDigit.f c = some (digitB c) := by
 unfold impl_isDigit.f digitB
 by_cases h : c ≥ 48
 ·rw [if_pos h]; congr 1; simp; omega
 ·rw [if_neg h]; congr 1; simp; omega
theorem impl_letter (c : Int) : impl_isLetter.f c = some (letterB c && decide (c ≠ 95)) := by
 unfold impl_isLetter.f letterB
 repeat' split
 all_goals (congr 1; rw [Bool.eq_iff_iff]; simp; try omega)
theorem spec_name_loop (s : ByteArray) (hs : s.size ≤ 140737488351232) (h0 : digitB (bt s 0) = false) (d : Nat) : ∀ i : Nat, s.size - i = d → i ≤ s.size →
  ∃ b, Ev (fun k => spec_GoodName.l0 k s i) b ∧ (b = true ↔ ∀ j, i ≤ j → j < s.size → (letterB (bt s (j : Nat)) = true ∨ (j ≠ 0 ∧ digitB (bt s (j : Nat)) = true))) := by
 induction d with
 | zero =>
  intro i hd hi
  refine ⟨true, Ev.step (fun k => by simp only [spec_GoodName.l0]; rw [if_neg (by omega)]) (Ev.now true), ⟨fun _ j h1 h2 => by omega, fun _ => rfl⟩⟩
 | succ d ih =>
  intro i hd hi
  obtain ⟨b, hb, hiff⟩ := ih (i + 1) (by omega) (by omega)
  have hw : wrap64 ((i : Int) + 1) = ((i + 1 : Nat) : Int) := by rw [wrap_small (by omega) (by omega)]; omega
  by_cases hl : letterB (bt s (i : Nat)) = true
  ·refine ⟨b, Ev.step (fun k => by simp only [spec_GoodName.l0]; rw [if_pos (by omega), if_pos (by omega), spec_letter, hl, hw]; simp only [Option.bind_some, if_true]) hb, hiff.trans ⟨fun h j h1 h2 => ?_, fun h j h1 h2 => h j (by omega) h2⟩⟩
   by_cases e : j = i
   ·subst e; exact .inl hl
   ·exact h j (by omega) h2
  ·have hl' : letterB (bt s (i : Nat)) = false := by simpa using hl
   by_cases hg : digitB (bt s (i : Nat)) = true
   ·have hi0 : i ≠ 0 := by
     rintro rfl
     rw [show ((0 : Nat) : Int) = 0 from rfl, h0] at hg
     cases hg
    refine ⟨b, Ev.step (fun k => by simp only [spec_GoodName.l0]; rw [if_pos (by omega), if_pos (by omega), spec_letter, hl', spec_digit, hg, hw]; simp only [Option.bind_some, if_true, Bool.false_eq_true, if_false]) hb, hiff.trans ⟨fun h j h1 h2 => ?_, fun h j h1 h2 => h j (by omega) h2⟩⟩
    by_cases e : j = i
    ·subst e; exact .inr ⟨hi0, hg⟩
    ·exact h j (by omega) h2
   ·have hg' : digitB (bt s (i : Nat)) = false := by simpa using hg
    refine ⟨false, Ev.step (fun k => by simp only [spec_GoodName.l0]; rw [if_pos (by omega), if_pos (by omega), spec_letter, hl', spec_digit, hg']; simp only [Option.bind_some, Bool.false_eq_true, if_false]) (Ev.now false), ⟨fun h => (Bool.false_ne_true h).elim, fun h => ?_⟩⟩
    rcases h i (Nat.le_refl _) (by omega) with h | ⟨_, h⟩
    ·exact absurd h hl
    ·exact absurd h hg
theorem spec_name (s : ByteArray) (hs : s.size ≤ 140737488351232) : Ev (fun k => spec_GoodName.f k s) (nameB s) := by
 unfold spec_GoodName.f nameB
 by_cases h1 : (s.size : Int) < 1
 ·have : decide (NameOk s) = false := decide_eq_false (by unfold NameOk; omega)
  simp only [if_pos h1, this]
  exact Ev.step (fun k => by simp only [spec_GoodName.j0, if_true]) (Ev.now false)
 ·by_cases h2 : (s.size : Int) > 20
  ·have : decide (NameOk s) = false := decide_eq_false (by unfold NameOk; omega)
   simp only [if_neg h1, if_pos h2, this]
   exact Ev.step (fun k => by simp only [spec_GoodName.j0, if_true]) (Ev.now false)
  ·simp only [if_neg h1, if_neg h2, if_pos (show 0 < (s.size : Int) by omega), spec_digit, Option.bind_some]
   by_cases hd : digitB (bt s 0) = true
   ·have : decide (NameOk s) = false := decide_eq_false (fun hn => by
     rcases hn.2.2 0 (by omega) with h | ⟨h, _⟩
     ·rw [show ((0 : Nat) : Int) = 0 from rfl] at h
      revert hd h
      unfold digitB letterB
      simp
      omega
     ·exact h rfl)
    simp only [hd, this]
    exact Ev.step (fun k => by simp only [spec_GoodName.j0, if_true]) (Ev.now false)
   ·have hd' : digitB (bt s 0) = false := by simpa using hd
    obtain ⟨b, hb, hiff⟩ := spec_name_loop s hs hd' s.size 0 (by omega) (by omega)
    have : b = decide (NameOk s) := by
     rw [Bool.eq_iff_iff, hiff]
     simp only [decide_eq_true_eq]
     exact ⟨fun h => ⟨by omega, by omega, fun j hj => h j (Nat.zero_le _) hj⟩, fun h j _ hj => h.2.2 j hj⟩
    rw [← this]
    simp only [hd']
    exact Ev.step (fun k => by simp only [spec_GoodName.j0, Bool.false_eq_true, if_false]; rfl) hb
theorem impl_name_loop (s : ByteArray) (hs : s.size ≤ 140737488351232) (d : Nat) : ∀ i : Nat, s.size - i = d → i ≤ s.size →
  ∃ b, Ev (fun k => impl_GoodName.l0 k s s.size i) b ∧ (b = true ↔ (1 ≤ s.size ∧ s.size ≤ 20 ∧ ∀ j, i ≤ j → j < s.size → (letterB (bt s (j : Nat)) = true ∨ (j ≠ 0 ∧ digitB (bt s (j : Nat)) = true)))) := by
 induction d with
 | zero =>
  intro i hd hi
  refine ⟨decide (1 ≤ s.size ∧ s.size ≤ 20), Ev.step (fun k => ?_) (Ev.now _), ?_⟩
  ·simp only [impl_GoodName.l0]; rw [if_neg (by omega)]
   unfold impl_inRange.f
   by_cases h : (1 : Int) ≤ s.size
   ·rw [if_pos h]; simp only [Option.bind_some, Option.some.injEq, decide_eq_decide]; omega
   ·rw [if_neg h, decide_eq_false (p := 1 ≤ s.size ∧ s.size ≤ 20) (by omega)]; rfl
  ·simp only [decide_eq_true_eq]
   exact ⟨fun h => ⟨h.1, h.2, fun j h1 h2 => by omega⟩, fun h => ⟨h.1, h.2.1⟩⟩
 | succ d ih =>
  intro i hd hi
  obtain ⟨b, hb, hiff⟩ := ih (i + 1) (by omega) (by omega)
  have hw : wrap64 ((i : Int) + 1) = ((i + 1 : Nat) : Int) := by rw [wrap_small (by omega) (by omega)]; omega
  have yes (hok : letterB (bt s (i : Nat)) = true ∨ (i ≠ 0 ∧ digitB (bt s (i : Nat)) = true)) : (b = true ↔ (1 ≤ s.size ∧ s.size ≤ 20 ∧ ∀ j, i ≤ j → j < s.size → (letterB (bt s (j : Nat)) = true ∨ (j ≠ 0 ∧ digitB (bt s (j : Nat)) = true)))) := by
   refine hiff.trans ⟨fun h => ⟨h.1, h.2.1, fun j h1 h2 => ?_⟩, fun h => ⟨h.1, h.2.1, fun j h1 h2 => h.2.2 j (by omega) h2⟩⟩
   by_cases e : j = i
   ·subst e; exact hok
   ·exact h.2.2 j (by omega) h2
  have no (hok : ¬ (letterB (bt s (i : Nat)) = true ∨ (i ≠ 0 ∧ digitB (bt s (i : Nat)) = true))) : (false = true ↔ (1 ≤ s.size ∧ s.size ≤ 20 ∧ ∀ j, i ≤ j → j < s.size → (letterB (bt s (j : Nat)) = true ∨ (j ≠ 0 ∧ digitB (bt s (j : Nat)) = true)))) :=
   ⟨fun h => (Bool.false_ne_true h).elim, fun h => absurd (h.2.2 i (Nat.le_refl _) (by omega)) hok⟩
  have step (k : Nat) : impl_GoodName.l0 (k + 1) s s.size i = (impl_isLetter.f (bt s i)).bind fun t105 => (if t105 = true then (impl_GoodName.l0 k s s.size ((i + 1 : Nat) : Int)) else (if (bt s i) = 95 then (impl_GoodName.l0 k s s.size ((i + 1 : Nat) : Int)) else (if (i : Int) = 0 then (some false) else ((impl_isDigit.f (bt s i)).bind fun t106 => (if t106 = true then (impl_GoodName.l0 k s s.size ((i + 1 : Nat) : Int)) else (some false)))))) := by
   simp only [impl_GoodName.l0]; rw [if_pos (by omega), if_pos (by omega), if_pos (by omega), hw]
  by_cases hu : bt s (i : Nat) = 95
  ·have hl : letterB (bt s (i : Nat)) = true := by unfold letterB; simp [hu]
   refine ⟨b, Ev.step (fun k => ?_) hb, yes (.inl hl)⟩
   rw [step, impl_letter]; simp [hu]
  ·by_cases hl : letterB (bt s (i : Nat)) = true
   ·refine ⟨b, Ev.step (fun k => ?_) hb, yes (.inl hl)⟩
    rw [step, impl_letter]; simp [hl, hu]
   ·have hl' : letterB (bt s (i : Nat)) = false := by simpa using hl
    by_cases hi0 : i = 0
    ·refine ⟨false, Ev.step (fun k => ?_) (Ev.now false), no (fun h => ?_)⟩
     ·rw [step, impl_letter]; subst hi0; simp only [hl', Bool.false_and, Option.bind_some, Bool.false_eq_true, if_false, if_neg hu]; rfl
     ·rcases h with h | ⟨h, _⟩
      ·exact absurd h hl
      ·exact h hi0
    ·by_cases hg : digitB (bt s (i : Nat)) = true
     ·refine ⟨b, Ev.step (fun k => ?_) hb, yes (.inr ⟨hi0, hg⟩)⟩
      rw [step, impl_letter, impl_digit]; simp only [hl', hg, Bool.false_and, Option.bind_some, Bool.false_eq_true, if_false, if_neg hu, if_true]; rw [if_neg (by omega)]
     ·have hg' : digitB (bt s (i : Nat)) = false := by simpa using hg
      refine ⟨false, Ev.step (fun k => ?_) (Ev.now false), no (fun h => ?_)⟩
      ·rw [step, impl_letter, impl_digit]; simp only [hl', hg', Bool.false_and, Option.bind_some, Bool.false_eq_true, if_false, if_neg hu]; rw [if_neg (by omega)]
      ·rcases h with h | ⟨_, h⟩
       ·exact absurd h hl
       ·exact absurd h hg
theorem impl_name (s : ByteArray) (hs : s.size ≤ 140737488351232) : Ev (fun k => impl_GoodName.f k s) (nameB s) := by
 obtain ⟨b, hb, hiff⟩ := impl_name_loop s hs s.size 0 (by omega) (by omega)
 have : b = nameB s := by
  rw [Bool.eq_iff_iff, hiff]
  unfold nameB
  rw [decide_eq_true_eq]
  unfold NameOk
  simp only [Nat.zero_le, true_implies]
 rw [← this]
 exact hb
/-! #### worlds: their copies, their equality, their size -/
def partOf (x : S180) : S72 := ⟨x.f0, x.f1, x.f2⟩
def entOf (x : S133) : S69 := ⟨x.f0, x.f1.map partOf⟩
theorem rd143 {l : List S180} {i : Nat} (h : i < l.length) : rd_T180 l (i : Int) = l[i] := by simp [rd_T180, h]
theorem rd95 {l : List S72} {i : Nat} (h : i < l.length) : rd_T72 l (i : Int) = l[i] := by simp [rd_T72, h]
theorem rd119 {l : List S133} {i : Nat} (h : i < l.length) : rd_T133 l (i : Int) = l[i] := by simp [rd_T133, h]
theorem rd93 {l : List S69} {i : Nat} (h : i < l.length) : rd_T69 l (i : Int) = l[i] := by simp [rd_T69, h]
theorem to_parts (l : List S180) (hl : l.length ≤ 4398046511104) : Ev (fun k => laws_toPartS.f k l) (l.map partOf) := by
 unfold laws_toPartS.f
 simp only [if_pos (show (0 : Int) ≤ (l.length : Int) by omega), toNat_cast, if_pos (show l.length ≤ 8796093022208 by omega)]
 refine ev_map l z72 partOf (fun k x i => laws_toPartS.l0 k l x i) (fun _ x => some (partOf x)) (fun _ _ => Ev.now _) ?_ ?_
 ·intro k x i hi hx
  simp only [laws_toPartS.l0, if_pos (show (i : Int) < (l.length : Int) by omega), if_pos (show (0 : Int) ≤ (i : Int) by omega), laws_toPart.f, Option.bind_some, if_pos (show (i : Int) < (x.length : Int) by omega), rd143 hi, toNat_cast, succ_cast hi (by omega)]
  rfl
 ·intro k x
  simp only [laws_toPartS.l0, if_neg (show ¬ (l.length : Int) < (l.length : Int) by omega)]
theorem to_ents (l : List S133) (hl : l.length ≤ 4398046511104) (hp : ∀ x ∈ l, x.f1.length ≤ 4398046511104) : Ev (fun k => laws_toEntityS.f k l) (l.map entOf) := by
 unfold laws_toEntityS.f
 simp only [if_pos (show (0 : Int) ≤ (l.length : Int) by omega), toNat_cast, if_pos (show l.length ≤ 8796093022208 by omega)]
 refine ev_map l z69 entOf (fun k x i => laws_toEntityS.l0 k l x i) (fun k x => (laws_toPartS.f k x.f1).bind fun t => some (⟨x.f0, t⟩ : S69)) (fun i hi => Ev.bind (to_parts _ (hp _ (List.getElem_mem hi))) (Ev.now _)) ?_ ?_
 ·intro k x i hi hx
  simp only [laws_toEntityS.l0, if_pos (show (i : Int) < (l.length : Int) by omega), if_pos (show (0 : Int) ≤ (i : Int) by omega), laws_toEntity.f, if_pos (show (i : Int) < (x.length : Int) by omega), rd119 hi, toNat_cast, succ_cast hi (by omega)]
  cases laws_toPartS.f k l[i].f1 <;> rfl
 ·intro k x
  simp only [laws_toEntityS.l0, if_neg (show ¬ (l.length : Int) < (l.length : Int) by omega)]
theorem eq_parts (l : List S72) (hl : l.length ≤ 4398046511104) : Ev (fun k => laws_eqPartS.f k l l) true := by
 unfold laws_eqPartS.f
 simp only [if_true]
 refine ev_trues (n := l.length) (fun k i => laws_eqPartS.l0 k l l i) (fun _ _ => some true) (fun _ _ => Ev.now _) ?_ ?_
 ·intro k i hi
  simp only [laws_eqPartS.l0, if_pos (show (i : Int) < (l.length : Int) by omega), if_pos (show (0 : Int) ≤ (i : Int) by omega), laws_eqPart.f, if_true, Option.bind_some, rd95 hi, succ_cast hi (by omega)]
 ·intro k
  simp only [laws_eqPartS.l0, if_neg (show ¬ (l.length : Int) < (l.length : Int) by omega)]
theorem eq_ents (l : List S69) (hl : l.length ≤ 4398046511104) (hp : ∀ x ∈ l, x.f1.length ≤ 4398046511104) : Ev (fun k => laws_eqEntityS.f k l l) true := by
 unfold laws_eqEntityS.f
 simp only [if_true]
 refine ev_trues (n := l.length) (fun k i => laws_eqEntityS.l0 k l l i) (fun k i => (laws_eqPartS.f k (rd_T69 l (i : Int)).f1 (rd_T69 l (i : Int)).f1).bind fun t => if t = true then some true else some false) (fun i hi => ?_) ?_ ?_
 ·rw [rd93 hi]
  refine Ev.bind (eq_parts _ (hp _ (List.getElem_mem hi))) ?_
  simp only [if_true]
  exact Ev.now _
 ·intro k i hi
  simp only [laws_eqEntityS.l0, if_pos (show (i : Int) < (l.length : Int) by omega), if_pos (show (0 : Int) ≤ (i : Int) by omega), laws_eqEntity.f, if_true, succ_cast hi (by omega)]
 ·intro k
  simp only [laws_eqEntityS.l0, if_neg (show ¬ (l.length : Int) < (l.length : Int) by omega)]
theorem eq_world (a b : Int) (l : List S69) (hl : l.length ≤ 4398046511104) (hp : ∀ x ∈ l, x.f1.length ≤ 4398046511104) : Ev (fun k => laws_eqWorld.f k a b l a b l) true := by
 unfold laws_eqWorld.f
 simp only [if_true]
 refine Ev.bind (eq_ents l hl hp) ?_
 simp only [if_true]
 exact Ev.now _
theorem sz_parts_from (l : List S180) (hl : l.length ≤ 4398046511104) (d : Nat) : ∀ (i : Nat) (m : Int), l.length - i = d → i ≤ l.length → ∃ v, Ev (fun k => laws_szPartS.l0 k l m (i : Int)) v := by
 induction d with
 | zero =>
  intro i m hd hi
  refine ⟨m, ev_succ ?_⟩
  simp only [laws_szPartS.l0, if_neg (show ¬ (i : Int) < (l.length : Int) by omega)]
  exact Ev.now _
 | succ d ih =>
  intro i m hd hi
  have hlt : i < l.length := by omega
  obtain ⟨t, ht⟩ : ∃ t, laws_szPart.f l[i].f0 l[i].f1 l[i].f2 m = some t := by
   unfold laws_szPart.f
   split
   ·exact ⟨_, rfl⟩
   ·exact ⟨_, rfl⟩
  by_cases c : t < 0
  ·refine ⟨-1, ev_succ ?_⟩
   simp only [laws_szPartS.l0, if_pos (show (i : Int) < (l.length : Int) by omega), if_pos (show (0 : Int) ≤ (i : Int) by omega), rd143 hlt, ht, Option.bind_some, if_pos c]
   exact Ev.now _
  ·obtain ⟨v, hv⟩ := ih (i + 1) t (by omega) (by omega)
   refine ⟨v, ev_succ ?_⟩
   simp only [laws_szPartS.l0, if_pos (show (i : Int) < (l.length : Int) by omega), if_pos (show (0 : Int) ≤ (i : Int) by omega), rd143 hlt, ht, Option.bind_some, if_neg c, succ_cast hlt (by omega)]
   exact hv
theorem sz_parts (l : List S180) (hl : l.length ≤ 4398046511104) (m : Int) : ∃ v, Ev (fun k => laws_szPartS.f k l m) v := by
 unfold laws_szPartS.f
 by_cases c : wrap64 (m - (l.length : Int)) < 0
 ·simp only [if_pos c]; exact ⟨_, Ev.now _⟩
 ·simp only [if_neg c]
  exact sz_parts_from l hl l.length 0 _ (by omega) (by omega)
theorem sz_ents_from (l : List S133) (hl : l.length ≤ 4398046511104) (hp : ∀ x ∈ l, x.f1.length ≤ 4398046511104) (d : Nat) : ∀ (i : Nat) (m : Int), l.length - i = d → i ≤ l.length → ∃ v, Ev (fun k => laws_szEntityS.l0 k l m (i : Int)) v := by
 induction d with
 | zero =>
  intro i m hd hi
  refine ⟨m, ev_succ ?_⟩
  simp only [laws_szEntityS.l0, if_neg (show ¬ (i : Int) < (l.length : Int) by omega)]
  exact Ev.now _
 | succ d ih =>
  intro i m hd hi
  have hlt : i < l.length := by omega
  obtain ⟨t, ht⟩ := sz_parts l[i].f1 (hp _ (List.getElem_mem hlt)) m
  by_cases c0 : t < 0
  ·refine ⟨-1, ev_succ ?_⟩
   simp only [laws_szEntityS.l0, laws_szEntity.f, if_pos (show (i : Int) < (l.length : Int) by omega), if_pos (show (0 : Int) ≤ (i : Int) by omega), rd119 hlt]
   refine Ev.bind (Ev.bind ht (r := -1) ?_) ?_
   ·simp only [if_pos c0]; exact Ev.now _
   ·simp only [show (-1 : Int) < 0 from by decide, if_true]; exact Ev.now _
  ·obtain ⟨v, hv⟩ := ih (i + 1) t (by omega) (by omega)
   refine ⟨v, ev_succ ?_⟩
   simp only [laws_szEntityS.l0, laws_szEntity.f, if_pos (show (i : Int) < (l.length : Int) by omega), if_pos (show (0 : Int) ≤ (i : Int) by omega), rd119 hlt, succ_cast hlt (by omega)]
   refine Ev.bind (Ev.bind ht (r := t) ?_) ?_
   ·simp only [if_neg c0]; exact Ev.now _
   ·simp only [if_neg c0]; exact hv
theorem sz_world (a b : Int) (l : List S133) (hl : l.length ≤ 4398046511104) (hp : ∀ x ∈ l, x.f1.length ≤ 4398046511104) (m : Int) : ∃ v, Ev (fun k => laws_szWorld.f k a b l m) v := by
 unfold laws_szWorld.f laws_szEntityS.f
 by_cases c : wrap64 (m - (l.length : Int)) < 0
 ·refine ⟨-1, ?_⟩
  simp only [if_pos c, Option.bind_some, show (-1 : Int) < 0 from by decide, if_true]; exact Ev.now _
 ·simp only [if_neg c]
  obtain ⟨t, ht⟩ := sz_ents_from l hl hp l.length 0 (wrap64 (m - (l.length : Int))) (by omega) (by omega)
  by_cases c0 : t < 0
  ·refine ⟨-1, Ev.bind ht ?_⟩
   simp only [if_pos c0]; exact Ev.now _
  ·refine ⟨t, Ev.bind ht ?_⟩
   simp only [if_neg c0]; exact Ev.now _
theorem to_world (a b : Int) (l : List S133) (hl : l.length ≤ 4398046511104) (hp : ∀ x ∈ l, x.f1.length ≤ 4398046511104) : Ev (fun k => laws_toWorld.f k a b l) (a, b, l.map entOf) := by
 unfold laws_toWorld.f
 exact Ev.bind (to_ents l hl hp) (Ev.now _)
/-! #### good worlds -/
theorem getP {l : List S72} {i : Nat} (h : i < l.length) : l.getD i z72 = l[i] := by simp [h]
theorem getE {l : List S69} {i : Nat} (h : i < l.length) : l.getD i z69 = l[i] := by simp [h]
def lessP (a b : S72) : Bool := Op.bytesLess a.f0.toList b.f0.toList
def okPart (t : Int) (l : List S72) (i : Nat) : Bool := nameB (l.getD i z72).f0 && (inB (l.getD i z72).f2 0 t && (decide (i = 0) || lessP (l.getD (i - 1) z72) (l.getD i z72)))
def partsFrom (t : Int) (l : List S72) : Nat → Nat → Bool
 | 0, _ => true
 | d + 1, i => okPart t l i && partsFrom t l d (i + 1)
def okEnt (n t : Int) (l : List S69) (i : Nat) : Bool := inB (l.getD i z69).f0 1 (wrap64 (n - 1)) && ((decide (i = 0) || decide ((l.getD (i - 1) z69).f0 < (l.getD i z69).f0)) && (decide (((l.getD i z69).f1.length : Int) ≤ 12) && partsFrom t (l.getD i z69).f1 (l.getD i z69).f1.length 0))
def entsFrom (n t : Int) (l : List S69) : Nat → Nat → Bool
 | 0, _ => true
 | d + 1, i => okEnt n t l i && entsFrom n t l d (i + 1)
def GoodW (l : List S69) : Prop := l.length ≤ 4398046511104 ∧ ∀ x ∈ l, x.f1.length ≤ 4398046511104 ∧ ∀ p ∈ x.f1, p.f0.size ≤ 140737488351232
theorem pred_cast {i : Nat} (h0 : i ≠ 0) (h1 : i ≤ 4398046511104) : wrap64 ((i : Int) - 1) = ((i - 1 : Nat) : Int) := by rw [wrap_small (by omega) (by omega)]; omega
theorem spec_parts_from (n t : Int) (es : List S69) (ei : Nat) (e0 : Int) (l : List S72) (hl : l.length ≤ 4398046511104) (hs : ∀ p ∈ l, p.f0.size ≤ 140737488351232) (v : Bool) (hv : Ev (fun k => spec_GoodWorld.l0 k es (es.length : Int) (wrap64 ((ei : Int) + 1)) n t es) v) (d : Nat) : ∀ i : Nat, l.length - i = d → i ≤ l.length →
  Ev (fun k => spec_GoodWorld.l1 k es (es.length : Int) (ei : Int) l (l.length : Int) (i : Int) n t es e0 l) (partsFrom t l d i && v) := by
 induction d with
 | zero =>
  intro i hd hi
  refine ev_succ ?_
  simp only [spec_GoodWorld.l1, if_neg (show ¬ (i : Int) < (l.length : Int) by omega), partsFrom, Bool.true_and]
  exact hv
 | succ d ih =>
  intro i hd hi
  have hlt : i < l.length := by omega
  have ihn := ih (i + 1) (by omega) (by omega)
  refine ev_succ ?_
  unfold partsFrom okPart
  rw [getP hlt]
  simp only [spec_GoodWorld.l1, if_pos (show (i : Int) < (l.length : Int) by omega), if_pos (show (0 : Int) ≤ (i : Int) by omega), rd95 hlt, spec_in, Option.bind_some, succ_cast hlt (by omega)]
  refine Ev.bind (spec_name _ (hs _ (List.getElem_mem hlt))) ?_
  cases nameB l[i].f0 with
  | false => simp only [Bool.false_eq_true, if_false, Bool.false_and]; exact Ev.now _
  | true =>
   cases inB l[i].f2 0 t with
   | false => simp only [if_true, Bool.false_eq_true, if_false, Bool.false_and, Bool.and_false]; exact Ev.now _
   | true =>
    simp only [if_true, Bool.true_and]
    by_cases c0 : i = 0
    ·simp only [if_neg (show ¬ (i : Int) > 0 by omega), decide_eq_true c0, Bool.true_or, Bool.true_and]
     exact ihn
    ·have h1 : i - 1 < l.length := by omega
     simp only [if_pos (show (i : Int) > 0 by omega), pred_cast c0 (by omega), if_pos (show (0 : Int) ≤ ((i - 1 : Nat) : Int) by omega), if_pos (show ((i - 1 : Nat) : Int) < (l.length : Int) by omega), rd95 h1, getP h1, decide_eq_false c0, Bool.false_or]
     have e : Op.bytesLess l[i - 1].f0.toList l[i].f0.toList = lessP l[i - 1] l[i] := rfl
     rw [e]
     cases lessP l[i - 1] l[i] with
     | true => simp only [if_true, Bool.true_and]; exact ihn
     | false => simp only [Bool.false_eq_true, if_false, Bool.false_and]; exact Ev.now _
theorem impl_parts_from (t : Int) (l : List S72) (hl : l.length ≤ 4398046511104) (hs : ∀ p ∈ l, p.f0.size ≤ 140737488351232) (d : Nat) : ∀ i : Nat, l.length - i = d → i ≤ l.length →
  Ev (fun k => impl_areParts.l0 k l t l (l.length : Int) (i : Int)) (partsFrom t l d i && decide ((l.length : Int) ≤ 12)) := by
 induction d with
 | zero =>
  intro i hd hi
  refine ev_succ ?_
  simp only [impl_areParts.l0, if_neg (show ¬ (i : Int) < (l.length : Int) by omega), partsFrom, Bool.true_and]
  exact Ev.now _
 | succ d ih =>
  intro i hd hi
  have hlt : i < l.length := by omega
  have ihn := ih (i + 1) (by omega) (by omega)
  refine ev_succ ?_
  unfold partsFrom okPart
  rw [getP hlt]
  simp only [impl_areParts.l0, if_pos (show (i : Int) < (l.length : Int) by omega), if_pos (show (0 : Int) ≤ (i : Int) by omega), rd95 hlt, impl_in, Option.bind_some, succ_cast hlt (by omega)]
  refine Ev.bind (impl_name _ (hs _ (List.getElem_mem hlt))) ?_
  cases nameB l[i].f0 with
  | false => simp only [Bool.false_eq_true, if_false, Bool.false_and]; exact Ev.now _
  | true =>
   simp only [if_true, Bool.true_and]
   by_cases c0 : i = 0
   ·simp only [if_neg (show ¬ (i : Int) > 0 by omega), decide_eq_true c0, Bool.true_or, Bool.and_true]
    cases inB l[i].f2 0 t with
    | false => simp only [Bool.false_eq_true, if_false, Bool.false_and]; exact Ev.now _
    | true => simp only [if_true, Bool.true_and]; exact ihn
   ·have h1 : i - 1 < l.length := by omega
    simp only [if_pos (show (i : Int) > 0 by omega), pred_cast c0 (by omega), if_pos (show (0 : Int) ≤ ((i - 1 : Nat) : Int) by omega), if_pos (show ((i - 1 : Nat) : Int) < (l.length : Int) by omega), rd95 h1, getP h1, decide_eq_false c0, Bool.false_or]
    have e : Op.bytesLess l[i - 1].f0.toList l[i].f0.toList = lessP l[i - 1] l[i] := rfl
    rw [e]
    cases lessP l[i - 1] l[i] with
    | false => simp only [Bool.false_eq_true, if_false, Bool.and_false, Bool.false_and]; exact Ev.now _
    | true =>
     simp only [if_true, Bool.and_true]
     cases inB l[i].f2 0 t with
     | false => simp only [Bool.false_eq_true, if_false, Bool.false_and]; exact Ev.now _
     | true => simp only [if_true, Bool.true_and]; exact ihn
theorem spec_j2_bad (n t : Int) (es : List S69) (a b e0 : Int) (p : List S72) : Ev (fun k => spec_GoodWorld.j2 k es a b true n t es e0 p) false := by
 refine ev_succ ?_
 simp only [spec_GoodWorld.j2, if_true]; exact Ev.now _
theorem spec_ents_from (n t : Int) (l : List S69) (hg : GoodW l) (d : Nat) : ∀ i : Nat, l.length - i = d → i ≤ l.length →
  Ev (fun k => spec_GoodWorld.l0 k l (l.length : Int) (i : Int) n t l) (entsFrom n t l d i) := by
 obtain ⟨hl, hp⟩ := hg
 induction d with
 | zero =>
  intro i hd hi
  refine ev_succ ?_
  simp only [spec_GoodWorld.l0, if_neg (show ¬ (i : Int) < (l.length : Int) by omega), entsFrom]
  exact Ev.now _
 | succ d ih =>
  intro i hd hi
  have hlt : i < l.length := by omega
  have ihn := ih (i + 1) (by omega) (by omega)
  have hpi := hp _ (List.getElem_mem hlt)
  have fin : Ev (fun k => spec_GoodWorld.j2 k l (l.length : Int) (i : Int) (decide ((l[i].f1.length : Int) > 12)) n t l l[i].f0 l[i].f1) ((decide ((l[i].f1.length : Int) ≤ 12) && partsFrom t l[i].f1 l[i].f1.length 0) && entsFrom n t l d (i + 1)) := by
   by_cases c : (l[i].f1.length : Int) > 12
   ·rw [decide_eq_true c, decide_eq_false (show ¬ (l[i].f1.length : Int) ≤ 12 by omega)]
    exact spec_j2_bad n t l _ _ _ _
   ·rw [decide_eq_false c, decide_eq_true (show (l[i].f1.length : Int) ≤ 12 by omega), Bool.true_and]
    refine ev_succ ?_
    simp only [spec_GoodWorld.j2, Bool.false_eq_true, if_false]
    exact spec_parts_from n t l i l[i].f0 l[i].f1 hpi.1 hpi.2 _ (by rw [succ_cast hlt (by omega)]; exact ihn) l[i].f1.length 0 (by omega) (by omega)
  refine ev_succ ?_
  unfold entsFrom okEnt
  rw [getE hlt]
  simp only [spec_GoodWorld.l0, if_pos (show (i : Int) < (l.length : Int) by omega), if_pos (show (0 : Int) ≤ (i : Int) by omega), rd93 hlt, spec_in, Option.bind_some]
  cases inB l[i].f0 1 (wrap64 (n - 1)) with
  | false => simp only [Bool.false_eq_true, if_false, Bool.false_and]; exact spec_j2_bad n t l _ _ _ _
  | true =>
   simp only [if_true, Bool.true_and]
   by_cases c0 : i = 0
   ·simp only [if_neg (show ¬ (i : Int) > 0 by omega), decide_eq_true c0, Bool.true_or, Bool.true_and]
    exact fin
   ·have h1 : i - 1 < l.length := by omega
    simp only [if_pos (show (i : Int) > 0 by omega), pred_cast c0 (by omega), if_pos (show (0 : Int) ≤ ((i - 1 : Nat) : Int) by omega), if_pos (show ((i - 1 : Nat) : Int) < (l.length : Int) by omega), rd93 h1, getE h1, decide_eq_false c0, Bool.false_or]
    by_cases c1 : l[i - 1].f0 ≥ l[i].f0
    ·simp only [if_pos c1, decide_eq_false (show ¬ l[i - 1].f0 < l[i].f0 by omega), Bool.false_and]
     exact spec_j2_bad n t l _ _ _ _
    ·simp only [if_neg c1, decide_eq_true (show l[i - 1].f0 < l[i].f0 by omega), Bool.true_and]
     exact fin
def worldB (n t : Int) (l : List S69) : Bool := entsFrom n t l l.length 0 && (inB n 1 1000000 && (inB t 0 1000000 && decide ((l.length : Int) ≤ 60)))
theorem impl_ents_from (n t : Int) (l : List S69) (hg : GoodW l) (d : Nat) : ∀ i : Nat, l.length - i = d → i ≤ l.length →
  Ev (fun k => impl_GoodWorld.l0 k l (l.length : Int) (i : Int) n t l) (entsFrom n t l d i && (inB n 1 1000000 && (inB t 0 1000000 && decide ((l.length : Int) ≤ 60)))) := by
 obtain ⟨hl, hp⟩ := hg
 induction d with
 | zero =>
  intro i hd hi
  refine ev_succ ?_
  simp only [impl_GoodWorld.l0, if_neg (show ¬ (i : Int) < (l.length : Int) by omega), entsFrom, Bool.true_and, impl_in, Option.bind_some]
  cases inB n 1 1000000 with
  | false => simp only [Bool.false_eq_true, if_false, Bool.false_and]; exact Ev.now _
  | true =>
   cases inB t 0 1000000 with
   | false => simp only [if_true, Bool.false_eq_true, if_false, Bool.false_and, Bool.and_false]; exact Ev.now _
   | true => simp only [if_true, Bool.true_and]; exact Ev.now _
 | succ d ih =>
  intro i hd hi
  have hlt : i < l.length := by omega
  have ihn := ih (i + 1) (by omega) (by omega)
  have hpi := hp _ (List.getElem_mem hlt)
  have fin : Ev (fun k => (impl_areParts.f k l[i].f1 t).bind fun t1 => if t1 = true then impl_GoodWorld.l0 k l (l.length : Int) ((i + 1 : Nat) : Int) n t l else some false) (((decide ((l[i].f1.length : Int) ≤ 12) && partsFrom t l[i].f1 l[i].f1.length 0) && entsFrom n t l d (i + 1)) && (inB n 1 1000000 && (inB t 0 1000000 && decide ((l.length : Int) ≤ 60)))) := by
   refine Ev.bind (impl_parts_from t l[i].f1 hpi.1 hpi.2 l[i].f1.length 0 (by omega) (by omega)) ?_
   rw [Bool.and_comm (decide ((l[i].f1.length : Int) ≤ 12))]
   cases (partsFrom t l[i].f1 l[i].f1.length 0 && decide ((l[i].f1.length : Int) ≤ 12)) with
   | false => simp only [Bool.false_eq_true, if_false, Bool.false_and]; exact Ev.now _
   | true => simp only [if_true, Bool.true_and]; exact ihn
  refine ev_succ ?_
  unfold entsFrom okEnt
  rw [getE hlt]
  simp only [impl_GoodWorld.l0, if_pos (show (i : Int) < (l.length : Int) by omega), if_pos (show (0 : Int) ≤ (i : Int) by omega), rd93 hlt, impl_in, Option.bind_some, succ_cast hlt (by omega)]
  cases inB l[i].f0 1 (wrap64 (n - 1)) with
  | false => simp only [Bool.false_eq_true, if_false, Bool.false_and]; exact Ev.now _
  | true =>
   simp only [if_true, Bool.true_and]
   by_cases c0 : i = 0
   ·simp only [if_neg (show ¬ (i : Int) > 0 by omega), decide_eq_true c0, Bool.true_or, Bool.true_and]
    exact fin
   ·have h1 : i - 1 < l.length := by omega
    simp only [if_pos (show (i : Int) > 0 by omega), pred_cast c0 (by omega), if_pos (show (0 : Int) ≤ ((i - 1 : Nat) : Int) by omega), if_pos (show ((i - 1 : Nat) : Int) < (l.length : Int) by omega), rd93 h1, getE h1, decide_eq_false c0, Bool.false_or]
    by_cases c1 : l[i - 1].f0 ≥ l[i].f0
    ·simp only [if_pos c1, decide_eq_false (show ¬ l[i - 1].f0 < l[i].f0 by omega), Bool.false_and]
     exact Ev.now _
    ·simp only [if_neg c1, decide_eq_true (show l[i - 1].f0 < l[i].f0 by omega), Bool.true_and]
     exact fin
theorem impl_world (n t : Int) (l : List S69) (hg : GoodW l) : Ev (fun k => impl_GoodWorld.f k n t l) (worldB n t l) := impl_ents_from n t l hg l.length 0 (by omega) (by omega)
theorem spec_j0_bad (n t : Int) (l : List S69) : Ev (fun k => spec_GoodWorld.j0 k true n t l) false := by
 refine ev_succ ?_
 simp only [spec_GoodWorld.j0, if_true]; exact Ev.now _
theorem spec_world (n t : Int) (l : List S69) (hg : GoodW l) : Ev (fun k => spec_GoodWorld.f k n t l) (worldB n t l) := by
 unfold spec_GoodWorld.f worldB
 simp only [spec_in, Option.bind_some]
 cases inB n 1 1000000 with
 | false => simp only [Bool.false_eq_true, if_false, Bool.false_and, Bool.and_false]; exact spec_j0_bad n t l
 | true =>
  cases inB t 0 1000000 with
  | false => simp only [if_true, Bool.false_eq_true, if_false, Bool.false_and, Bool.and_false]; exact spec_j0_bad n t l
  | true =>
   simp only [if_true, Bool.true_and]
   by_cases c : (l.length : Int) > 60
   ·rw [decide_eq_true c, decide_eq_false (show ¬ (l.length : Int) ≤ 60 by omega), Bool.and_false]
    exact spec_j0_bad n t l
   ·rw [decide_eq_false c, decide_eq_true (show (l.length : Int) ≤ 60 by omega), Bool.and_true]
    refine ev_succ ?_
    simp only [spec_GoodWorld.j0, Bool.false_eq_true, if_false]
    exact spec_ents_from n t l hg l.length 0 (by omega) (by omega)
/-! #### kinds: one more entity, in the reference's order and in the program's -/
theorem ltc {i n : Nat} (h : i < n) : (i : Int) < (n : Int) := by omega
theorem nnc (i : Nat) : (0 : Int) ≤ (i : Int) := by omega
theorem no_lt (n : Nat) : ¬ (n : Int) < (n : Int) := by omega
theorem rd76 {l : List S76} {i : Nat} (h : i < l.length) : rd_T76 l (i : Int) = l[i] := by simp [rd_T76, h]
def upd (N : List ByteArray) (id : Int) (out : List S76) : List S76 := out.map fun x => if x.f0 = N then ⟨x.f0, x.f1 ++ [id]⟩ else x
def posK (N : List ByteArray) (out : List S76) : Nat := out.findIdx fun x => !decide (Kinds.cmpN x.f0 N < 0)
open Classical in
noncomputable def insS (N : List ByteArray) (id : Int) (out : List S76) : List S76 := if N ∈ out.map (fun x => x.f0) then upd N id out else out.take (posK N out) ++ [⟨N, [id]⟩] ++ out.drop (posK N out)
open Classical in
noncomputable def insI (N : List ByteArray) (id : Int) (out : List S76) : List S76 := if N ∈ out.map (fun x => x.f0) then upd N id out else out ++ [⟨N, [id]⟩]
def SortedK (out : List S76) : Prop := out.Pairwise fun a b => Kinds.cmpN a.f0 b.f0 < 0
section
variable {N : List ByteArray} {id : Int} {out s i : List S76}
theorem upd_names : (upd N id out).map (fun x => x.f0) = out.map (fun x => x.f0) := by
 unfold upd
 rw [List.map_map]
 apply List.map_congr_left
 intro x _
 simp only [Function.comp]
 split <;> rfl
theorem sorted_names : SortedK out ↔ (out.map (fun x => x.f0)).Pairwise (fun a b => Kinds.cmpN a b < 0) := by unfold SortedK; rw [List.pairwise_map]
theorem sorted_nodup (h : SortedK out) : (out.map (fun x => x.f0)).Nodup := by
 rw [sorted_names] at h
 exact h.imp (fun {a b} h e => by rw [e, (Kinds.cmpN_eq b b).2 rfl] at h; omega)
theorem pos_le : posK N out ≤ out.length := List.findIdx_le_length
theorem pos_lt {j : Nat} (h : j < posK N out) : Kinds.cmpN (out[j]'(Nat.lt_of_lt_of_le h pos_le)).f0 N < 0 := by
 have := List.not_of_lt_findIdx (p := fun x : S76 => !decide (Kinds.cmpN x.f0 N < 0)) (xs := out) h
 simpa using this
theorem pos_at (h : posK N out < out.length) : ¬ Kinds.cmpN (out[posK N out]'h).f0 N < 0 := by
 have := List.findIdx_getElem (p := fun x : S76 => !decide (Kinds.cmpN x.f0 N < 0)) (xs := out) (w := h)
 rw [Bool.not_eq_true', decide_eq_false_iff_not] at this
 exact this
/-- Is the name there? Then it is at its place. -/
theorem pos_in (hs : SortedK out) (hN : N ∈ out.map (fun x => x.f0)) : ∃ h : posK N out < out.length, (out[posK N out]'h).f0 = N := by
 obtain ⟨x, hx, rfl⟩ := List.mem_map.1 hN
 obtain ⟨q, hq, rfl⟩ := List.getElem_of_mem hx
 have h0 : Kinds.cmpN (out[q]).f0 (out[q]).f0 = 0 := (Kinds.cmpN_eq _ _).2 rfl
 have hp : posK (out[q]).f0 out ≤ q := by
  refine Nat.le_of_not_lt fun h => ?_
  have := pos_lt h
  omega
 have hl : posK (out[q]).f0 out < out.length := by omega
 rcases Nat.lt_or_ge (posK (out[q]).f0 out) q with h | h
 ·exact absurd (List.pairwise_iff_getElem.1 hs _ _ hl hq h) (pos_at hl)
 ·refine ⟨hl, ?_⟩
  have e : posK (out[q]).f0 out = q := by omega
  congr 1
  exact getElem_congr_idx e
theorem set_upd (hn : (out.map (fun x => x.f0)).Nodup) (j : Nat) (h : j < out.length) (hN : (out[j]).f0 = N) : out.set j ⟨(out[j]).f0, (out[j]).f1 ++ [id]⟩ = upd N id out := by
 unfold upd
 apply List.ext_getElem
 ·rw [List.length_set, List.length_map]
 ·intro t h1 h2
  rw [List.length_set] at h1
  rw [List.getElem_map]
  by_cases e : t = j
  ·subst e
   rw [List.getElem_set_self, if_pos hN]
  ·rw [List.getElem_set_ne (fun h => e h.symm), if_neg]
   intro h3
   have hp := List.pairwise_iff_getElem.1 hn
   rcases Nat.lt_or_gt_of_ne e with h4 | h4
   ·exact hp t j (by simpa using h1) (by simpa using h) h4 (by rw [List.getElem_map, List.getElem_map, h3, hN])
   ·exact hp j t (by simpa using h) (by simpa using h1) h4 (by rw [List.getElem_map, List.getElem_map, h3, hN])
theorem insS_sorted (hs : SortedK out) : SortedK (insS N id out) := by
 unfold insS
 split
 ·rw [sorted_names, upd_names, ← sorted_names]; exact hs
 ·rename_i hN
  have hs2 : (out.take (posK N out) ++ out.drop (posK N out)).Pairwise fun a b => Kinds.cmpN a.f0 b.f0 < 0 := by rw [List.take_append_drop]; exact hs
  obtain ⟨ht, hd, htd⟩ := List.pairwise_append.1 hs2
  have hafter : ∀ b ∈ out.drop (posK N out), Kinds.cmpN N b.f0 < 0 := fun b hb => by
   obtain ⟨t, ht1, rfl⟩ := List.getElem_of_mem hb
   have hl : posK N out < out.length := by rw [List.length_drop] at ht1; omega
   have h1 : Kinds.cmpN N (out[posK N out]).f0 < 0 := by
    have h2 := pos_at hl
    have h3 : Kinds.cmpN (out[posK N out]).f0 N ≠ 0 := fun h4 => hN (List.mem_map.2 ⟨_, List.getElem_mem hl, (Kinds.cmpN_eq _ _).1 h4⟩)
    exact (Kinds.cmpN_swap _ _).2 (by omega)
   rw [List.getElem_drop]
   by_cases e : t = 0
   ·subst e; exact h1
   ·have h5 := List.pairwise_iff_getElem.1 hs (posK N out) (posK N out + t) hl (by rw [List.length_drop] at ht1; omega) (by omega)
    exact Kinds.cmpN_trans _ _ _ h1 h5
  have hbefore : ∀ a ∈ out.take (posK N out), Kinds.cmpN a.f0 N < 0 := fun a ha => by
   obtain ⟨t, ht1, rfl⟩ := List.getElem_of_mem ha
   rw [List.getElem_take]
   exact pos_lt (by rw [List.length_take] at ht1; omega)
  unfold SortedK
  rw [List.append_assoc]
  refine List.pairwise_append.2 ⟨ht, ?_, ?_⟩
  ·refine List.pairwise_append.2 ⟨List.pairwise_singleton _ _, hd, fun a ha b hb => ?_⟩
   rw [List.mem_singleton] at ha
   subst ha
   exact hafter b hb
  ·intro a ha b hb
   rcases List.mem_append.1 hb with hb | hb
   ·rw [List.mem_singleton] at hb
    subst hb
    exact hbefore a ha
   ·exact htd a ha b hb
theorem ins_perm (h : s.Perm i) : (insS N id s).Perm (insI N id i) := by
 unfold insS insI
 have hm := (h.map (fun x : S76 => x.f0)).mem_iff (a := N)
 by_cases c : N ∈ s.map (fun x => x.f0)
 ·rw [if_pos c, if_pos (hm.1 c)]
  exact h.map _
 ·rw [if_neg c, if_neg (fun h2 => c (hm.2 h2)), List.append_assoc]
  refine (List.perm_middle (a := (⟨N, [id]⟩ : S76)) (l₁ := s.take (posK N s)) (l₂ := s.drop (posK N s))).trans ?_
  rw [List.take_append_drop]
  exact (h.cons _).trans (List.perm_append_singleton _ _).symm
theorem insI_nodup (hn : (out.map (fun x => x.f0)).Nodup) : ((insI N id out).map (fun x => x.f0)).Nodup := by
 unfold insI
 split
 ·rw [upd_names]; exact hn
 ·rename_i hN
  rw [List.map_append]
  refine List.nodup_append.2 ⟨hn, by simp, fun a ha b hb e => ?_⟩
  simp at hb
  subst hb
  subst e
  exact hN ha
/-- Sorted at the end, they are one. -/
theorem sort_eq (hs : SortedK s) (hp : s.Perm i) : i.mergeSort (fun x y => Kinds.leN x.f0 y.f0) = s := by
 have hn : (i.map (fun x => x.f0)).Nodup := (hp.map _).nodup_iff.1 (sorted_nodup hs)
 refine List.Perm.eq_of_pairwise (le := fun a b => Kinds.leN a.f0 b.f0 = true) ?_ (List.pairwise_mergeSort (le := fun (x y : S76) => Kinds.leN x.f0 y.f0) (fun a b c h1 h2 => impl_Kind_45.le_trans _ _ _ h1 h2) (fun a b => impl_Kind_45.le_total _ _) _) (hs.imp (fun {a b} h => ?_)) ((List.mergeSort_perm _ _).trans hp.symm)
 ·intro a b ha hb h1 h2
  exact impl_Kind_45.inj hn ((List.mergeSort_perm _ _).mem_iff.1 ha) (hp.mem_iff.1 hb) (Kinds.cmpN_total _ _ (of_decide_eq_true h2) (of_decide_eq_true h1))
 ·unfold Kinds.leN
  refine decide_eq_true ?_
  have := (Kinds.cmpN_swap _ _).1 h
  omega
end
/-- How many, how long. -/
def BK (n : Nat) (out : List S76) : Prop := out.length ≤ n ∧ ∀ x ∈ out, x.f0.length ≤ 12 ∧ x.f1.length ≤ n
theorem BK_upd {N : List ByteArray} {id : Int} {n : Nat} {out : List S76} (h : BK n out) : BK (n + 1) (upd N id out) := by
 refine ⟨by unfold upd; rw [List.length_map]; have := h.1; omega, fun x hx => ?_⟩
 unfold upd at hx
 obtain ⟨y, hy, rfl⟩ := List.mem_map.1 hx
 have := h.2 y hy
 split
 ·exact ⟨this.1, by rw [List.length_append, List.length_singleton]; omega⟩
 ·exact ⟨this.1, by omega⟩
theorem BK_insS {N : List ByteArray} {id : Int} {n : Nat} {out : List S76} (hN : N.length ≤ 12) (h : BK n out) : BK (n + 1) (insS N id out) := by
 unfold insS
 split
 ·exact BK_upd h
 ·refine ⟨by have h1 := h.1; have h2 := pos_le (N := N) (out := out); simp only [List.length_append, List.length_take, List.length_drop, List.length_singleton]; omega, fun x hx => ?_⟩
  rcases List.mem_append.1 hx with hx | hx
  ·rcases List.mem_append.1 hx with hx | hx
   ·have := h.2 x (List.mem_of_mem_take hx); exact ⟨this.1, by omega⟩
   ·rw [List.mem_singleton] at hx; subst hx; exact ⟨hN, by show 1 ≤ n + 1; omega⟩
  ·have := h.2 x (List.mem_of_mem_drop hx); exact ⟨this.1, by omega⟩
theorem BK_insI {N : List ByteArray} {id : Int} {n : Nat} {out : List S76} (hN : N.length ≤ 12) (h : BK n out) : BK (n + 1) (insI N id out) := by
 unfold insI
 split
 ·exact BK_upd h
 ·refine ⟨by have h1 := h.1; simp only [List.length_append, List.length_singleton]; omega, fun x hx => ?_⟩
  rcases List.mem_append.1 hx with hx | hx
  ·have := h.2 x hx; exact ⟨this.1, by omega⟩
  ·rw [List.mem_singleton] at hx; subst hx; exact ⟨hN, by show 1 ≤ n + 1; omega⟩
def namesOf (e : S69) : List ByteArray := e.f1.map fun p => p.f0
noncomputable def runS (l : List S69) (out : List S76) : List S76 := l.foldl (fun o e => insS (namesOf e) e.f0 o) out
noncomputable def runI (l : List S69) (out : List S76) : List S76 := l.foldl (fun o e => insI (namesOf e) e.f0 o) out
theorem run_inv (l : List S69) : ∀ (s i : List S76), SortedK s → s.Perm i → SortedK (runS l s) ∧ (runS l s).Perm (runI l i) := by
 induction l with
 | nil => intro s i h1 h2; exact ⟨h1, h2⟩
 | cons e l ih => intro s i h1 h2; exact ih _ _ (insS_sorted h1) (ins_perm h2)
theorem run_bk (l : List S69) (hl : ∀ e ∈ l, e.f1.length ≤ 12) : ∀ (s : List S76) (n : Nat), BK n s → BK (n + l.length) (runS l s) := by
 induction l with
 | nil => intro s n h; exact h
 | cons e l ih =>
  intro s n h
  have := ih (fun x hx => hl x (List.mem_cons_of_mem _ hx)) _ _ (BK_insS (id := e.f0) (N := namesOf e) (by unfold namesOf; rw [List.length_map]; exact hl e (List.mem_cons_self ..)) h)
  rw [List.length_cons, show n + (l.length + 1) = n + 1 + l.length by omega]
  exact this
/-! #### names compared, names found -/
theorem rdB {l : List ByteArray} {i : Nat} (h : i < l.length) : rdOf ByteArray.empty l (i : Int) = l[i] := by simp [rdOf, h]
theorem spec_cmp_from (x y : List ByteArray) (hx : x.length ≤ 1000) (hy : y.length ≤ 1000) (d : Nat) : ∀ i : Nat, x.length - i = d → i ≤ x.length → i ≤ y.length →
  ∃ v, Ev (fun k => spec_l3Cmp.l0 k x y (i : Int)) v ∧ (v < 0 ↔ Kinds.cmpN (x.drop i) (y.drop i) < 0) ∧ (v = 0 ↔ Kinds.cmpN (x.drop i) (y.drop i) = 0) := by
 induction d with
 | zero =>
  intro i hd hi hj
  obtain rfl : i = x.length := by omega
  refine ⟨(x.length : Int) - (y.length : Int), ev_succ ?_, ?_⟩
  ·simp only [spec_l3Cmp.l0, if_neg (no_lt x.length)]
   refine ev_succ ?_
   simp only [spec_l3Cmp.j1, Bool.false_eq_true, if_false, wrap_small (show -9223372036854775808 ≤ (x.length : Int) - (y.length : Int) by omega) (show (x.length : Int) - (y.length : Int) ≤ 9223372036854775807 by omega)]
   exact Ev.now _
  ·rw [List.drop_length]
   by_cases h : x.length < y.length
   ·rw [List.drop_eq_getElem_cons h]; simp only [Kinds.cmpN]; omega
   ·rw [List.drop_eq_nil_of_le (show y.length ≤ x.length by omega), show Kinds.cmpN [] [] = 0 from rfl]; constructor <;> constructor <;> intro _ <;> omega
 | succ d ih =>
  intro i hd hi hj
  have hlt : i < x.length := by omega
  rw [List.drop_eq_getElem_cons hlt]
  by_cases h : i < y.length
  ·rw [List.drop_eq_getElem_cons h]
   have hgo : ∀ v, (Ev (fun k => if Op.bytesLess x[i].toList y[i].toList = true then some (-1) else if Op.bytesLess y[i].toList x[i].toList = true then some 1 else spec_l3Cmp.l0 k x y ((i + 1 : Nat) : Int)) v) → Ev (fun k => spec_l3Cmp.l0 k x y (i : Int)) v := fun v hv => by
    refine ev_succ ?_
    simp only [spec_l3Cmp.l0, if_pos (ltc hlt), decide_eq_true (ltc h)]
    refine ev_succ ?_
    simp only [spec_l3Cmp.j1, if_true, if_pos (nnc i), if_pos (ltc hlt), if_pos (ltc h), rdB hlt, rdB h, succ_cast hlt (by omega)]
    exact hv
   by_cases c1 : Op.bytesLess x[i].toList y[i].toList = true
   ·refine ⟨-1, hgo _ (by simp only [if_pos c1]; exact Ev.now _), ?_⟩
    simp only [Kinds.cmpN, Kinds.cmpB, if_pos c1]
    rw [if_neg (by decide)]; omega
   ·by_cases c2 : Op.bytesLess y[i].toList x[i].toList = true
    ·refine ⟨1, hgo _ (by simp only [if_neg c1, if_pos c2]; exact Ev.now _), ?_⟩
     simp only [Kinds.cmpN, Kinds.cmpB, if_neg c1, if_pos c2]
     rw [if_neg (by decide)]; omega
    ·obtain ⟨v, hv, h2⟩ := ih (i + 1) (by omega) (by omega) (by omega)
     refine ⟨v, hgo _ (by simp only [if_neg c1, if_neg c2]; exact hv), ?_⟩
     simp only [Kinds.cmpN, Kinds.cmpB, if_neg c1, if_neg c2, if_true]
     exact h2
  ·rw [List.drop_eq_nil_of_le (show y.length ≤ i by omega)]
   refine ⟨(x.length : Int) - (y.length : Int), ev_succ ?_, ?_⟩
   ·simp only [spec_l3Cmp.l0, if_pos (ltc hlt), decide_eq_false (show ¬ (i : Int) < (y.length : Int) by omega)]
    refine ev_succ ?_
    simp only [spec_l3Cmp.j1, Bool.false_eq_true, if_false, wrap_small (show -9223372036854775808 ≤ (x.length : Int) - (y.length : Int) by omega) (show (x.length : Int) - (y.length : Int) ≤ 9223372036854775807 by omega)]
    exact Ev.now _
   ·simp only [Kinds.cmpN]; omega
theorem spec_cmp (x y : List ByteArray) (hx : x.length ≤ 1000) (hy : y.length ≤ 1000) : ∃ v, Ev (fun k => spec_l3Cmp.f k x y) v ∧ (v < 0 ↔ Kinds.cmpN x y < 0) ∧ (v = 0 ↔ Kinds.cmpN x y = 0) := spec_cmp_from x y hx hy x.length 0 (by omega) (by omega) (by omega)
theorem equal_from (x y : List ByteArray) (hx : x.length ≤ 1000) (he : x.length = y.length) (d : Nat) : ∀ i : Nat, x.length - i = d → i ≤ x.length →
  Ev (fun k => slices_Equal_string_string.l0 k x y (x.length : Int) (i : Int)) (decide (x.drop i = y.drop i)) := by
 induction d with
 | zero =>
  intro i hd hi
  obtain rfl : i = x.length := by omega
  refine ev_succ ?_
  simp only [slices_Equal_string_string.l0, if_neg (no_lt x.length)]
  rw [List.drop_length, he, List.drop_length, decide_eq_true rfl]
  exact Ev.now _
 | succ d ih =>
  intro i hd hi
  have hlt : i < x.length := by omega
  have hlt2 : i < y.length := by omega
  refine ev_succ ?_
  simp only [slices_Equal_string_string.l0, if_pos (ltc hlt), if_pos (nnc i), if_pos (ltc hlt2), rdB hlt, rdB hlt2, succ_cast hlt (by omega)]
  rw [List.drop_eq_getElem_cons hlt, List.drop_eq_getElem_cons hlt2]
  by_cases c : x[i].toList = y[i].toList
  ·simp only [if_pos c]
   have e : decide (x[i] :: x.drop (i + 1) = y[i] :: y.drop (i + 1)) = decide (x.drop (i + 1) = y.drop (i + 1)) := by
    rw [decide_eq_decide, Kinds.toList_inj c]
    exact ⟨fun h => by injection h, fun h => by rw [h]⟩
   rw [e]
   exact ih (i + 1) (by omega) (by omega)
  ·simp only [if_neg c]
   rw [decide_eq_false (fun h => c (by injection h with h _; rw [h]))]
   exact Ev.now _
theorem equal_names (x y : List ByteArray) (hx : x.length ≤ 1000) : Ev (fun k => slices_Equal_string_string.f k x y) (decide (x = y)) := by
 unfold slices_Equal_string_string.f
 by_cases c : (x.length : Int) = (y.length : Int)
 ·simp only [if_pos c]
  have := equal_from x y hx (by omega) x.length 0 (by omega) (by omega)
  exact this
 ·simp only [if_neg c]
  rw [decide_eq_false (fun h => c (by rw [h]))]
  exact Ev.now _
theorem ev_all {α β : Type} (G : Nat → α → Option β) (p : α → β) (l : List α) (h : ∀ x ∈ l, Ev (fun k => G k x) (p x)) : ∃ K, ∀ k, K ≤ k → ∀ x ∈ l, G k x = some (p x) := by
 induction l with
 | nil => exact ⟨0, fun _ _ _ hx => by cases hx⟩
 | cons a t ih =>
  obtain ⟨K1, h1⟩ := ih (fun x hx => h x (List.mem_cons_of_mem _ hx))
  obtain ⟨K2, h2⟩ := h a (List.mem_cons_self ..)
  refine ⟨max K1 K2, fun k hk x hx => ?_⟩
  rcases List.mem_cons.1 hx with rfl | hx
  ·exact h2 k (by omega)
  ·exact h1 k (by omega) x hx
theorem index_kind (out : List S76) (N : List ByteArray) (hb : ∀ x ∈ out, x.f0.length ≤ 12) : Ev (fun k => impl_Kind_42.f k out N) (idxO (fun x => decide (x.f0 = N)) out) := by
 obtain ⟨K, hK⟩ := ev_all (fun k (x : S76) => slices_Equal_string_string.f k x.f0 N) (fun x => decide (x.f0 = N)) out (fun x hx => equal_names _ _ (by have := hb x hx; omega))
 refine ⟨K, fun k hk => ?_⟩
 unfold impl_Kind_42.f
 dsimp only
 rw [anyO_some (fun x : S76 => decide (x.f0 = N)) (hK k hk), Option.bind_some]
 congr 1
 exact impl_Kind_42.idx_congr fun x hx => by rw [hK k hk x hx]; rfl
/-! #### the reference's loops -/
theorem spec_names (l : List S69) (out : List S76) (ei e0 : Int) (ps : List S72) (hp : ps.length ≤ 1000) (r : List S76 × Bool) (h : Ev (fun k => spec_KindsOf.l2 k out (ps.map fun p => p.f0) 0 l (l.length : Int) ei e0 ps) r) (d : Nat) : ∀ i : Nat, ps.length - i = d → i ≤ ps.length →
  Ev (fun k => spec_KindsOf.l1 k out ((ps.take i).map fun p => p.f0) l (l.length : Int) ei ps (ps.length : Int) (i : Int) e0 ps) r := by
 induction d with
 | zero =>
  intro i hd hi
  obtain rfl : i = ps.length := by omega
  refine ev_succ ?_
  simp only [spec_KindsOf.l1, if_neg (no_lt ps.length), List.take_length]
  exact h
 | succ d ih =>
  intro i hd hi
  have hlt : i < ps.length := by omega
  refine ev_succ ?_
  simp only [spec_KindsOf.l1, if_pos (ltc hlt), if_pos (nnc i), if_pos (show ((ps.take i).map fun p => p.f0).length < 8796093022208 by rw [List.length_map, List.length_take]; omega), rd95 hlt, succ_cast hlt (by omega)]
  have := ih (i + 1) (by omega) (by omega)
  rw [List.take_succ_eq_append_getElem hlt, List.map_append] at this
  exact this
theorem spec_place (l : List S69) (out : List S76) (hs : SortedK out) (hb : BK 60 out) (N : List ByteArray) (hN : N.length ≤ 12) (ei : Int) (e0 : Int) (ps : List S72) (r : List S76 × Bool) (h : Ev (fun k => spec_KindsOf.l0 k (insS N e0 out) l (l.length : Int) (wrap64 (ei + 1))) r) (d : Nat) : ∀ j : Nat, posK N out - j = d → j ≤ posK N out →
  Ev (fun k => spec_KindsOf.l2 k out N (j : Int) l (l.length : Int) ei e0 ps) r := by
 have hle := pos_le (N := N) (out := out)
 have hlen := hb.1
 have new : N ∉ out.map (fun x => x.f0) → insS N e0 out = out.take (posK N out) ++ [⟨N, [e0]⟩] ++ out.drop (posK N out) := fun c => by unfold insS; rw [if_neg c]
 induction d with
 | zero =>
  intro j hd hj
  obtain rfl : j = posK N out := by omega
  refine ev_succ ?_
  by_cases hlt : posK N out < out.length
  ·have hx := hb.2 _ (List.getElem_mem hlt)
   obtain ⟨v, hv, h1, h2⟩ := spec_cmp (out[posK N out]).f0 N (by omega) (by omega)
   have hn := pos_at hlt
   simp only [spec_KindsOf.l2, if_pos (ltc hlt), if_pos (nnc (posK N out)), rd76 hlt]
   refine Ev.bind hv ?_
   simp only [if_neg (show ¬ v < 0 from fun c => hn (h1.1 c))]
   refine Ev.bind hv ?_
   by_cases c : v = 0
   ·have e : (out[posK N out]).f0 = N := (Kinds.cmpN_eq _ _).1 (h2.1 c)
    have hin : N ∈ out.map (fun x => x.f0) := List.mem_map.2 ⟨_, List.getElem_mem hlt, e⟩
    simp only [if_pos c, if_pos (show ((out[posK N out]).f1).length < 17592186044416 by omega), toNat_cast, set_upd (sorted_nodup hs) _ hlt e]
    have e2 : insS N e0 out = upd N e0 out := by unfold insS; rw [if_pos hin]
    rw [e2] at h
    exact h
   ·have hnot : N ∉ out.map (fun x => x.f0) := fun hin => by
     obtain ⟨_, he⟩ := pos_in hs hin
     exact c (h2.2 ((Kinds.cmpN_eq _ _).2 he))
    simp only [if_neg c, if_pos (show ((posK N out : Nat) : Int) ≤ (out.length : Int) by omega), if_pos (show out.length < 2932031007402 by omega), toNat_cast]
    rw [new hnot] at h
    exact h
  ·have hnot : N ∉ out.map (fun x => x.f0) := fun hin => hlt (pos_in hs hin).1
   simp only [spec_KindsOf.l2, if_neg (show ¬ ((posK N out : Nat) : Int) < (out.length : Int) by omega), if_pos (nnc (posK N out)), if_pos (show ((posK N out : Nat) : Int) ≤ (out.length : Int) by omega), if_pos (show out.length < 2932031007402 by omega), toNat_cast]
   rw [new hnot] at h
   exact h
 | succ d ih =>
  intro j hd hj
  have hjp : j < posK N out := by omega
  have hlt : j < out.length := by omega
  have hx := hb.2 _ (List.getElem_mem hlt)
  obtain ⟨v, hv, h1, h2⟩ := spec_cmp (out[j]).f0 N (by omega) (by omega)
  refine ev_succ ?_
  simp only [spec_KindsOf.l2, if_pos (ltc hlt), if_pos (nnc j), rd76 hlt, succ_cast hlt (by omega)]
  refine Ev.bind hv ?_
  simp only [if_pos (h1.2 (pos_lt hjp))]
  exact ih (j + 1) (by omega) (by omega)
theorem spec_ents (l : List S69) (hl : l.length ≤ 60) (hp : ∀ e ∈ l, e.f1.length ≤ 12) (d : Nat) : ∀ (i : Nat) (out : List S76), l.length - i = d → i ≤ l.length → SortedK out → BK i out →
  Ev (fun k => spec_KindsOf.l0 k out l (l.length : Int) (i : Int)) (runS (l.drop i) out, true) := by
 induction d with
 | zero =>
  intro i out hd hi hs hb
  obtain rfl : i = l.length := by omega
  refine ev_succ ?_
  simp only [spec_KindsOf.l0, if_neg (no_lt l.length), List.drop_length]
  exact Ev.now _
 | succ d ih =>
  intro i out hd hi hs hb
  have hlt : i < l.length := by omega
  have hpi := hp _ (List.getElem_mem hlt)
  have hNl : (namesOf l[i]).length ≤ 12 := by unfold namesOf; rw [List.length_map]; exact hpi
  have hn := ih (i + 1) (insS (namesOf l[i]) l[i].f0 out) (by omega) (by omega) (insS_sorted hs) (BK_insS hNl hb)
  rw [← succ_cast hlt (by omega)] at hn
  have hb60 : BK 60 out := ⟨by have := hb.1; omega, fun x hx => ⟨(hb.2 x hx).1, by have := (hb.2 x hx).2; omega⟩⟩
  refine ev_succ ?_
  simp only [spec_KindsOf.l0, if_pos (ltc hlt), if_pos (nnc i), rd93 hlt]
  rw [List.drop_eq_getElem_cons hlt]
  have h2 := spec_place l out hs hb60 (namesOf l[i]) hNl (i : Int) l[i].f0 l[i].f1 _ hn _ 0 rfl (by omega)
  exact spec_names l out (i : Int) l[i].f0 l[i].f1 (by omega) _ h2 _ 0 rfl (by omega)
/-! #### the program's loops -/
theorem impl_names (l : List S69) (out : List S76) (ei e0 : Int) (ps : List S72) (hp : ps.length ≤ 1000) (r : List S76 × Bool) (h : Ev (fun k => impl_KindsOf.l1 k out l (l.length : Int) ei ps (ps.length : Int) (ps.length : Int) (ps.map fun p => p.f0) e0 ps) r) (d : Nat) : ∀ i : Nat, ps.length - i = d → i ≤ ps.length →
  Ev (fun k => impl_KindsOf.l1 k out l (l.length : Int) ei ps (ps.length : Int) (i : Int) ((ps.take i).map fun p => p.f0) e0 ps) r := by
 induction d with
 | zero =>
  intro i hd hi
  obtain rfl : i = ps.length := by omega
  rw [List.take_length]
  exact h
 | succ d ih =>
  intro i hd hi
  have hlt : i < ps.length := by omega
  refine ev_succ ?_
  simp only [impl_KindsOf.l1, if_pos (ltc hlt), if_pos (nnc i), if_pos (show ((ps.take i).map fun p => p.f0).length < 8796093022208 by rw [List.length_map, List.length_take]; omega), rd95 hlt, succ_cast hlt (by omega)]
  have := ih (i + 1) (by omega) (by omega)
  rw [List.take_succ_eq_append_getElem hlt, List.map_append] at this
  exact this
theorem impl_place (l : List S69) (out : List S76) (hn : (out.map fun x => x.f0).Nodup) (hb : BK 60 out) (N : List ByteArray) (ei : Int) (e0 : Int) (ps : List S72) (r : List S76 × Bool) (h : Ev (fun k => impl_KindsOf.l0 k (insI N e0 out) l (l.length : Int) (wrap64 (ei + 1))) r) :
  Ev (fun k => impl_KindsOf.l1 k out l (l.length : Int) ei ps (ps.length : Int) (ps.length : Int) N e0 ps) r := by
 have hlen := hb.1
 refine ev_succ ?_
 simp only [impl_KindsOf.l1, if_neg (no_lt ps.length)]
 refine Ev.bind (index_kind out N (fun x hx => (hb.2 x hx).1)) ?_
 by_cases hin : N ∈ out.map (fun x => x.f0)
 ·obtain ⟨x, hx, rfl⟩ := List.mem_map.1 hin
  obtain ⟨j, hj, rfl⟩ := List.getElem_of_mem hx
  have e : idxO (fun x => decide (x.f0 = (out[j]).f0)) out = (j : Int) := by
   refine idxO_hit hj (decide_eq_true rfl) (fun t ht => decide_eq_false fun h3 => ?_)
   exact List.pairwise_iff_getElem.1 hn t j (by rw [List.length_map]; omega) (by rw [List.length_map]; exact hj) ht (by rw [List.getElem_map, List.getElem_map]; exact h3)
  have hxl := hb.2 _ (List.getElem_mem hj)
  have e2 : insI (out[j]).f0 e0 out = upd (out[j]).f0 e0 out := by unfold insI; rw [if_pos hin]
  rw [e2] at h
  simp only [e, if_neg (show ¬ (j : Int) < 0 by omega), if_pos (nnc j), if_pos (ltc hj), rd76 hj, if_pos (show ((out[j]).f1).length < 17592186044416 by omega), toNat_cast, set_upd hn j hj rfl]
  exact h
 ·have e : idxO (fun x => decide (x.f0 = N)) out = -1 := idxO_miss fun t ht => decide_eq_false fun h3 => hin (List.mem_map.2 ⟨_, List.getElem_mem ht, h3⟩)
  have e2 : insI N e0 out = out ++ [⟨N, [e0]⟩] := by unfold insI; rw [if_neg hin]
  rw [e2] at h
  have hl2 : out.length < (out ++ [(⟨N, ([] : List Int)⟩ : S76)]).length := by simp
  have hg : (out ++ [(⟨N, ([] : List Int)⟩ : S76)])[out.length]'hl2 = ⟨N, []⟩ := by simp
  simp only [e, if_pos (show (-1 : Int) < 0 by decide), if_pos (show out.length < 2932031007402 by omega), Option.bind_some, if_pos (nnc out.length), if_pos (ltc hl2), rd76 hl2, hg, if_pos (show ([] : List Int).length < 17592186044416 by decide), toNat_cast]
  have e3 : (out ++ [(⟨N, ([] : List Int)⟩ : S76)]).set out.length ⟨N, [] ++ [e0]⟩ = out ++ [⟨N, [e0]⟩] := by
   rw [List.set_append_right _ _ (Nat.le_refl _), Nat.sub_self]; rfl
  rw [e3]
  exact h
theorem impl_ents (l : List S69) (hl : l.length ≤ 60) (hp : ∀ e ∈ l, e.f1.length ≤ 12) (v : List S76) (d : Nat) : ∀ (i : Nat) (out : List S76), l.length - i = d → i ≤ l.length → (out.map fun x => x.f0).Nodup → BK i out → (∀ z, BK 60 z → (z.map fun x => x.f0).Nodup → z = runI (l.drop i) out → impl_Kind_45.f z = some v) →
  Ev (fun k => impl_KindsOf.l0 k out l (l.length : Int) (i : Int)) (v, true) := by
 induction d with
 | zero =>
  intro i out hd hi hs hb hv
  obtain rfl : i = l.length := by omega
  refine ev_succ ?_
  simp only [impl_KindsOf.l0, if_neg (no_lt l.length)]
  rw [hv out ⟨by have := hb.1; omega, fun x hx => ⟨(hb.2 x hx).1, by have := (hb.2 x hx).2; omega⟩⟩ hs (by rw [List.drop_length]; rfl)]
  exact Ev.now _
 | succ d ih =>
  intro i out hd hi hs hb hv
  have hlt : i < l.length := by omega
  have hpi := hp _ (List.getElem_mem hlt)
  have hNl : (namesOf l[i]).length ≤ 12 := by unfold namesOf; rw [List.length_map]; exact hpi
  have hn := ih (i + 1) (insI (namesOf l[i]) l[i].f0 out) (by omega) (by omega) (insI_nodup hs) (BK_insI hNl hb) (fun z h1 h2 h3 => hv z h1 h2 (by rw [List.drop_eq_getElem_cons hlt]; exact h3))
  rw [← succ_cast hlt (by omega)] at hn
  have hb60 : BK 60 out := ⟨by have := hb.1; omega, fun x hx => ⟨(hb.2 x hx).1, by have := (hb.2 x hx).2; omega⟩⟩
  refine ev_succ ?_
  simp only [impl_KindsOf.l0, if_pos (ltc hlt), if_pos (nnc i), rd93 hlt]
  exact impl_names l out (i : Int) l[i].f0 l[i].f1 (by omega) _ (impl_place l out hs hb60 (namesOf l[i]) (i : Int) l[i].f0 l[i].f1 _ hn) _ 0 rfl (by omega)
/-- Both come to one list. -/
theorem kinds_one (l : List S69) (hl : l.length ≤ 60) (hp : ∀ e ∈ l, e.f1.length ≤ 12) : ∃ v, BK 60 v ∧ Ev (fun k => spec_KindsOf.l0 k [] l (l.length : Int) 0) (v, true) ∧ Ev (fun k => impl_KindsOf.l0 k [] l (l.length : Int) 0) (v, true) := by
 have h0 : SortedK [] := List.Pairwise.nil
 have hb0 : BK 0 [] := ⟨Nat.le_refl _, fun x hx => by cases hx⟩
 obtain ⟨h1, h2⟩ := run_inv l [] [] h0 (List.Perm.refl _)
 have hb := run_bk l hp [] 0 hb0
 refine ⟨runS l [], ⟨by have := hb.1; omega, fun x hx => ⟨(hb.2 x hx).1, by have := (hb.2 x hx).2; omega⟩⟩, ?_, ?_⟩
 ·exact spec_ents l hl hp l.length 0 [] (by omega) (by omega) h0 hb0
 ·refine impl_ents l hl hp (runS l []) l.length 0 [] (by omega) (by omega) List.nodup_nil hb0 (fun z hz hzn e => ?_)
  unfold impl_Kind_45.f
  rw [if_pos ⟨hzn, by have := hz.1; omega⟩]
  congr 1
  rw [e]
  exact sort_eq h1 h2
/-! #### marks in words: their texts -/
theorem strOf_size (x : Int) : (strOfNums [x]).size = 1 := rfl
theorem mark_text_from (n : Nat) : ∀ s : ByteArray, s.size + n ≤ 4611686018427387904 → ∃ t, Ev (fun k => laws_markText.l0 k (n : Int) s) t := by
 induction n using Nat.strongRecOn with
 | ind n ih =>
  intro s hs
  by_cases c : n = 0
  ·subst c
   refine ⟨(⟨#[109]⟩ : ByteArray) ++ s, ev_succ ?_⟩
   simp only [laws_markText.l0, if_neg (show ¬ ((0 : Nat) : Int) > 0 by omega), if_pos (show 1 + s.size ≤ 9223372036854775807 by omega)]
   exact Ev.now _
  ·have hd : n / 10 < n := Nat.div_lt_self (by omega) (by decide)
   have ew : wrap64 (Int.tdiv (n : Int) 10) = ((n / 10 : Nat) : Int) := by
    rw [tdiv_pos (by omega), wrap_small (by omega) (by omega)]; omega
   obtain ⟨t, ht⟩ := ih (n / 10) hd (strOfNums [(wrap64 (48 + (Int.tmod (n : Int) 10))) % 256] ++ s) (by rw [ByteArray.size_append, strOf_size]; omega)
   have c1 : (strOfNums [(wrap64 (48 + (Int.tmod (n : Int) 10))) % 256]).size + s.size ≤ 9223372036854775807 := by rw [strOf_size]; omega
   refine ⟨t, ev_succ ?_⟩
   simp only [laws_markText.l0, if_pos (show (n : Int) > 0 by omega), Option.bind_some, if_pos c1, ew]
   exact ht
theorem mark_text (m : Int) (h : 0 < m ∧ m ≤ 4611686018427387904) : ∃ t, Ev (fun k => laws_markText.f k m) t := by
 obtain ⟨n, rfl⟩ : ∃ n : Nat, m = (n : Int) := ⟨m.toNat, by omega⟩
 obtain ⟨t, ht⟩ := mark_text_from n ⟨#[]⟩ (by show 0 + n ≤ _; omega)
 refine ⟨t, ?_⟩
 unfold laws_markText.f
 simp only [if_neg (show ¬ (n : Int) ≤ 0 by omega)]
 exact ht
open Classical in
noncomputable def markName (m : Int) : ByteArray := if h : 0 < m ∧ m ≤ 4611686018427387904 then Classical.choose (mark_text m h) else ⟨#[]⟩
theorem mark_name {m : Int} (h0 : 0 < m) (h1 : m ≤ 4611686018427387904) : Ev (fun k => laws_markText.f k m) (markName m) := by
 unfold markName
 rw [dif_pos ⟨h0, h1⟩]
 exact Classical.choose_spec (mark_text m ⟨h0, h1⟩)
/-! #### marks in whole numbers -/
theorem mark_ints (l : List Int) (a : Int) (hl : l.length ≤ 17592186043904) (a0 : 0 ≤ a) (a1 : a ≤ 4611686018427387904) : ∃ r : Int × List Int, Ev (fun k => laws_markIntS.f k l a) r ∧ (r.1 = a + (l.length : Int) ∧ r.2.length = l.length ∧ ∀ j : Nat, j < l.length → r.2[j]? = some (a + (j : Int))) := by
 unfold laws_markIntS.f
 obtain ⟨r, hr, hp⟩ := Ev_up (fun k (i : Nat) (s : List Int × Int) => laws_markIntS.l0 k s.1 s.2 (i : Int)) l.length (fun i s => s.1.length = l.length ∧ s.2 = a + (i : Int) ∧ ∀ j : Nat, j < i → s.1[j]? = some (a + (j : Int))) (fun r => r.1 = a + (l.length : Int) ∧ r.2.length = l.length ∧ ∀ j : Nat, j < l.length → r.2[j]? = some (a + (j : Int)))
  (fun s hs => ⟨(s.2, s.1), ev_succ (by simp only [laws_markIntS.l0, if_neg (show ¬ (l.length : Int) < (s.1.length : Int) by have := hs.1; omega)]; exact Ev.now _), hs.2.1, hs.1, hs.2.2⟩)
  (fun i s hi hs => by
   right
   obtain ⟨x0, x1⟩ := s
   obtain ⟨h1, h2, h3⟩ := hs
   dsimp only at h1 h2 h3
   refine ⟨(x0.set i x1, x1 + 1), ⟨by rw [List.length_set]; exact h1, by dsimp only; omega, fun j hj => ?_⟩, fun r hr => ev_succ ?_⟩
   ·dsimp only
    by_cases e : j = i
    ·subst e
     rw [List.getElem?_set_self (by omega), h2]
    ·rw [List.getElem?_set_ne (by omega)]
     exact h3 j (by omega)
   ·simp only [laws_markIntS.l0, if_pos (show (i : Int) < (x0.length : Int) by omega), if_pos (nnc i), toNat_cast, succ_cast hi (by omega), wrap_small (show -9223372036854775808 ≤ x1 + 1 by omega) (show x1 + 1 ≤ 9223372036854775807 by omega)]
    exact hr) l.length 0 (l, a) (by omega) (by omega) ⟨rfl, by dsimp only; omega, fun j hj => by omega⟩
 exact ⟨r, hr, hp⟩
theorem held_ints (l : List Int) (a : Int) (hl : l.length ≤ 17592186043904) (a0 : 0 ≤ a) (a1 : a ≤ 4611686018427387904) (h : ∀ j : Nat, j < l.length → l[j]? = some (a + (j : Int))) : Ev (fun k => laws_heldIntS.f k l a) (a + (l.length : Int)) := by
 unfold laws_heldIntS.f
 obtain ⟨r, hr, hp⟩ := Ev_up (fun k (i : Nat) (s : Int) => laws_heldIntS.l0 k l s (i : Int)) l.length (fun i s => s = a + (i : Int)) (fun r => r = a + (l.length : Int))
  (fun s hs => ⟨s, ev_succ (by simp only [laws_heldIntS.l0, if_neg (no_lt l.length)]; exact Ev.now _), hs⟩)
  (fun i s hi hs => by
   right
   refine ⟨s + 1, by omega, fun r hr => ev_succ ?_⟩
   have hv : rd l (i : Int) = s := by
    have := h i hi
    simp only [rd, toNat_cast, List.getD_eq_getElem?_getD, this, Option.getD_some]
    exact hs.symm
   simp only [laws_heldIntS.l0, if_pos (ltc hi), if_pos (nnc i), if_pos hv, succ_cast hi (by omega), wrap_small (show -9223372036854775808 ≤ s + 1 by omega) (show s + 1 ≤ 9223372036854775807 by omega)]
   exact hr) l.length 0 a (by omega) (by omega) (by omega)
 rw [hp] at hr
 exact hr
/-! #### the size: what is let in is small -/
theorem szp_from (l : List S180) (hl : l.length ≤ 4398046511104) (hs : ∀ x ∈ l, x.f0.size ≤ 140737488351232) (d : Nat) : ∀ (i : Nat) (m : Int), l.length - i = d → i ≤ l.length → 0 ≤ m → m ≤ 1048576 → ∃ v, Ev (fun k => laws_szPartS.l0 k l m (i : Int)) v ∧ v ≤ m := by
 induction d with
 | zero =>
  intro i m hd hi h0 h1
  refine ⟨m, ev_succ ?_, Int.le_refl _⟩
  simp only [laws_szPartS.l0, if_neg (show ¬ (i : Int) < (l.length : Int) by omega)]
  exact Ev.now _
 | succ d ih =>
  intro i m hd hi h0 h1
  have hlt : i < l.length := by omega
  have hsz := hs _ (List.getElem_mem hlt)
  have ew : wrap64 (m - (l[i].f0.size : Int)) = m - (l[i].f0.size : Int) := wrap_small (by omega) (by omega)
  by_cases c : m - (l[i].f0.size : Int) < 0
  ·refine ⟨-1, ev_succ ?_, by omega⟩
   simp only [laws_szPartS.l0, laws_szPart.f, if_pos (ltc hlt), if_pos (nnc i), rd143 hlt, ew, if_pos c, Option.bind_some, show (-1 : Int) < 0 from by decide, if_true]
   exact Ev.now _
  ·obtain ⟨v, hv, h2⟩ := ih (i + 1) (m - (l[i].f0.size : Int)) (by omega) (by omega) (by omega) (by omega)
   refine ⟨v, ev_succ ?_, by omega⟩
   simp only [laws_szPartS.l0, laws_szPart.f, if_pos (ltc hlt), if_pos (nnc i), rd143 hlt, ew, if_neg c, Option.bind_some, succ_cast hlt (by omega)]
   exact hv
theorem szp (l : List S180) (hl : l.length ≤ 4398046511104) (hs : ∀ x ∈ l, x.f0.size ≤ 140737488351232) (m : Int) (h0 : 0 ≤ m) (h1 : m ≤ 1048576) : ∃ v, Ev (fun k => laws_szPartS.f k l m) v ∧ v ≤ m ∧ (¬ v < 0 → (l.length : Int) ≤ m) := by
 unfold laws_szPartS.f
 have ew : wrap64 (m - (l.length : Int)) = m - (l.length : Int) := wrap_small (by omega) (by omega)
 simp only [ew]
 by_cases c : m - (l.length : Int) < 0
 ·simp only [if_pos c]
  exact ⟨-1, Ev.now _, by omega, fun h => absurd (by decide) h⟩
 ·simp only [if_neg c]
  obtain ⟨v, hv, h2⟩ := szp_from l hl hs l.length 0 (m - (l.length : Int)) (by omega) (by omega) (by omega) (by omega)
  exact ⟨v, hv, by omega, fun _ => by omega⟩
theorem sze_from (l : List S133) (hl : l.length ≤ 4398046511104) (hp : ∀ x ∈ l, x.f1.length ≤ 4398046511104 ∧ ∀ y ∈ x.f1, y.f0.size ≤ 140737488351232) (d : Nat) : ∀ (i : Nat) (m : Int), l.length - i = d → i ≤ l.length → 0 ≤ m → m ≤ 1048576 → ∃ v, Ev (fun k => laws_szEntityS.l0 k l m (i : Int)) v ∧ (¬ v < 0 → ∀ j (h : j < l.length), i ≤ j → l[j].f1.length ≤ 1048576) := by
 induction d with
 | zero =>
  intro i m hd hi h0 h1
  refine ⟨m, ev_succ ?_, fun _ j hj hij => by omega⟩
  simp only [laws_szEntityS.l0, if_neg (show ¬ (i : Int) < (l.length : Int) by omega)]
  exact Ev.now _
 | succ d ih =>
  intro i m hd hi h0 h1
  have hlt : i < l.length := by omega
  have hpi := hp _ (List.getElem_mem hlt)
  obtain ⟨t, ht, ht1, ht2⟩ := szp l[i].f1 hpi.1 hpi.2 m h0 h1
  by_cases c0 : t < 0
  ·refine ⟨-1, ev_succ ?_, fun h => absurd (by decide) h⟩
   simp only [laws_szEntityS.l0, laws_szEntity.f, if_pos (ltc hlt), if_pos (nnc i), rd119 hlt]
   refine Ev.bind (Ev.bind ht (r := -1) ?_) ?_
   ·simp only [if_pos c0]; exact Ev.now _
   ·simp only [show (-1 : Int) < 0 from by decide, if_true]; exact Ev.now _
  ·obtain ⟨v, hv, h2⟩ := ih (i + 1) t (by omega) (by omega) (by omega) (by omega)
   refine ⟨v, ev_succ ?_, fun h j hj hij => ?_⟩
   ·simp only [laws_szEntityS.l0, laws_szEntity.f, if_pos (ltc hlt), if_pos (nnc i), rd119 hlt, succ_cast hlt (by omega)]
    refine Ev.bind (Ev.bind ht (r := t) ?_) ?_
    ·simp only [if_neg c0]; exact Ev.now _
    ·simp only [if_neg c0]; exact hv
   ·by_cases e : j = i
    ·subst e; have := ht2 c0; omega
    ·exact h2 h j hj (by omega)
theorem szw (a b : Int) (l : List S133) (hl : l.length ≤ 4398046511104) (hp : ∀ x ∈ l, x.f1.length ≤ 4398046511104 ∧ ∀ y ∈ x.f1, y.f0.size ≤ 140737488351232) : ∃ v, Ev (fun k => laws_szWorld.f k a b l 1048576) v ∧ (¬ v < 0 → l.length ≤ 1048576 ∧ ∀ x ∈ l, x.f1.length ≤ 1048576) := by
 unfold laws_szWorld.f laws_szEntityS.f
 have ew : wrap64 (1048576 - (l.length : Int)) = 1048576 - (l.length : Int) := wrap_small (by omega) (by omega)
 simp only [ew]
 by_cases c : 1048576 - (l.length : Int) < 0
 ·refine ⟨-1, ?_, fun h => absurd (by decide) h⟩
  simp only [if_pos c, Option.bind_some, show (-1 : Int) < 0 from by decide, if_true]; exact Ev.now _
 ·simp only [if_neg c]
  obtain ⟨t, ht, h2⟩ := sze_from l hl hp l.length 0 (1048576 - (l.length : Int)) (by omega) (by omega) (by omega) (by omega)
  by_cases c0 : t < 0
  ·refine ⟨-1, Ev.bind ht ?_, fun h => absurd (by decide) h⟩
   simp only [if_pos c0]; exact Ev.now _
  ·refine ⟨t, Ev.bind ht ?_, fun _ => ⟨by omega, fun x hx => ?_⟩⟩
   ·simp only [if_neg c0]; exact Ev.now _
   ·obtain ⟨j, hj, rfl⟩ := List.getElem_of_mem hx
    exact h2 c0 j hj (by omega)
/-! #### marks in worlds -/
theorem mark_parts (l : List S72) (hl : l.length ≤ 1048576) (a : Int) (a0 : 0 < a) (a1 : a ≤ 1152921504606846976) : ∃ r : Int × List S72, Ev (fun k => laws_markPartS.f k l a) r ∧ r.1 = a + 3 * (l.length : Int) := by
 unfold laws_markPartS.f
 exact Ev_up (fun k (i : Nat) (s : List S72 × Int) => laws_markPartS.l0 k s.1 s.2 (i : Int)) l.length (fun i s => s.1.length = l.length ∧ s.2 = a + 3 * (i : Int)) (fun r => r.1 = a + 3 * (l.length : Int))
  (fun s hs => ⟨(s.2, s.1), ev_succ (by simp only [laws_markPartS.l0, if_neg (show ¬ (l.length : Int) < (s.1.length : Int) by have := hs.1; omega)]; exact Ev.now _), hs.2⟩)
  (fun i s hi hs => by
   right
   obtain ⟨x0, x1⟩ := s
   obtain ⟨h1, h2⟩ := hs
   dsimp only at h1 h2
   refine ⟨((((x0.set i (⟨markName x1, (rd_T72 x0 (i : Int)).f1, (rd_T72 x0 (i : Int)).f2⟩ : S72)).set i (⟨(rd_T72 (x0.set i (⟨markName x1, (rd_T72 x0 (i : Int)).f1, (rd_T72 x0 (i : Int)).f2⟩ : S72)) (i : Int)).f0, x1 + 1, (rd_T72 (x0.set i (⟨markName x1, (rd_T72 x0 (i : Int)).f1, (rd_T72 x0 (i : Int)).f2⟩ : S72)) (i : Int)).f2⟩ : S72)).set i (⟨(rd_T72 ((x0.set i (⟨markName x1, (rd_T72 x0 (i : Int)).f1, (rd_T72 x0 (i : Int)).f2⟩ : S72)).set i (⟨(rd_T72 (x0.set i (⟨markName x1, (rd_T72 x0 (i : Int)).f1, (rd_T72 x0 (i : Int)).f2⟩ : S72)) (i : Int)).f0, x1 + 1, (rd_T72 (x0.set i (⟨markName x1, (rd_T72 x0 (i : Int)).f1, (rd_T72 x0 (i : Int)).f2⟩ : S72)) (i : Int)).f2⟩ : S72)) (i : Int)).f0, (rd_T72 ((x0.set i (⟨markName x1, (rd_T72 x0 (i : Int)).f1, (rd_T72 x0 (i : Int)).f2⟩ : S72)).set i (⟨(rd_T72 (x0.set i (⟨markName x1, (rd_T72 x0 (i : Int)).f1, (rd_T72 x0 (i : Int)).f2⟩ : S72)) (i : Int)).f0, x1 + 1, (rd_T72 (x0.set i (⟨markName x1, (rd_T72 x0 (i : Int)).f1, (rd_T72 x0 (i : Int)).f2⟩ : S72)) (i : Int)).f2⟩ : S72)) (i : Int)).f1, x1 + 1 + 1⟩ : S72)), x1 + 1 + 1 + 1), ⟨by simp only [List.length_set]; exact h1, by dsimp only; omega⟩, fun r hr => ev_succ ?_⟩
   simp only [laws_markPartS.l0, if_pos (show (i : Int) < (x0.length : Int) by omega), if_pos (nnc i)]
   refine Ev.bind (mark_name (by omega) (by omega)) ?_
   simp only [Option.bind_some, toNat_cast, succ_cast hi (by omega), wrap_small (show -9223372036854775808 ≤ x1 + 1 by omega) (show x1 + 1 ≤ 9223372036854775807 by omega), wrap_small (show -9223372036854775808 ≤ x1 + 1 + 1 by omega) (show x1 + 1 + 1 ≤ 9223372036854775807 by omega), wrap_small (show -9223372036854775808 ≤ x1 + 1 + 1 + 1 by omega) (show x1 + 1 + 1 + 1 ≤ 9223372036854775807 by omega)]
   exact hr) l.length 0 (l, a) (by omega) (by omega) ⟨rfl, by dsimp only; omega⟩
theorem mark_ents (l : List S69) (hl : l.length ≤ 1048576) (hp : ∀ x ∈ l, x.f1.length ≤ 1048576) : ∃ r : Int × List S69, Ev (fun k => laws_markEntityS.f k l 1) r ∧ ¬ r.1 < 0 := by
 unfold laws_markEntityS.f
 exact Ev_up (fun k (i : Nat) (s : List S69 × Int) => laws_markEntityS.l0 k s.1 s.2 (i : Int)) l.length (fun i s => s.1.length = l.length ∧ (∀ j, i ≤ j → s.1[j]? = l[j]?) ∧ 0 < s.2 ∧ s.2 ≤ 1 + 3145729 * (i : Int)) (fun r => ¬ r.1 < 0)
  (fun s hs => ⟨(s.2, s.1), ev_succ (by simp only [laws_markEntityS.l0, if_neg (show ¬ (l.length : Int) < (s.1.length : Int) by have := hs.1; omega)]; exact Ev.now _), by have := hs.2.2.1; dsimp only; omega⟩)
  (fun i s hi hs => by
   right
   obtain ⟨x0, x1⟩ := s
   obtain ⟨h1, h2, h3, h4⟩ := hs
   dsimp only at h1 h2 h3 h4
   have hg : x0.getD i z69 = l[i] := by rw [List.getD_eq_getElem?_getD, h2 i (Nat.le_refl _), List.getElem?_eq_getElem hi]; rfl
   have hpi := hp _ (List.getElem_mem hi)
   obtain ⟨r, hr, e⟩ := mark_parts l[i].f1 hpi (x1 + 1) (by omega) (by omega)
   refine ⟨(x0.set i ⟨x1, r.2⟩, r.1), ⟨by rw [List.length_set]; exact h1, fun j hj => ?_, by dsimp only; omega, by dsimp only; omega⟩, fun v hv => ev_succ ?_⟩
   ·dsimp only
    rw [List.getElem?_set_ne (by omega)]
    exact h2 j (by omega)
   ·simp only [laws_markEntityS.l0, if_pos (show (i : Int) < (x0.length : Int) by omega), if_pos (nnc i), toNat_cast, hg, succ_cast hi (by omega), wrap_small (show -9223372036854775808 ≤ x1 + 1 by omega) (show x1 + 1 ≤ 9223372036854775807 by omega)]
    exact Ev.bind hr hv) l.length 0 (l, 1) (by omega) (by omega) ⟨rfl, fun _ _ => rfl, by dsimp only; omega, by dsimp only; omega⟩
/-! #### marks in words and in kinds -/
theorem mark_strs (l : List ByteArray) (hl : l.length ≤ 1000) (a : Int) (a0 : 0 < a) (a1 : a ≤ 1000000) : ∃ r : Int × List ByteArray, Ev (fun k => laws_markStringS.f k l a) r ∧ (r.1 = a + (l.length : Int) ∧ r.2.length = l.length ∧ ∀ j : Nat, j < l.length → r.2[j]? = some (markName (a + (j : Int)))) := by
 unfold laws_markStringS.f
 exact Ev_up (fun k (i : Nat) (s : List ByteArray × Int) => laws_markStringS.l0 k s.1 s.2 (i : Int)) l.length (fun i s => s.1.length = l.length ∧ s.2 = a + (i : Int) ∧ ∀ j : Nat, j < i → s.1[j]? = some (markName (a + (j : Int)))) (fun r => r.1 = a + (l.length : Int) ∧ r.2.length = l.length ∧ ∀ j : Nat, j < l.length → r.2[j]? = some (markName (a + (j : Int))))
  (fun s hs => ⟨(s.2, s.1), ev_succ (by simp only [laws_markStringS.l0, if_neg (show ¬ (l.length : Int) < (s.1.length : Int) by have := hs.1; omega)]; exact Ev.now _), hs.2.1, hs.1, hs.2.2⟩)
  (fun i s hi hs => by
   right
   obtain ⟨x0, x1⟩ := s
   obtain ⟨h1, h2, h3⟩ := hs
   dsimp only at h1 h2 h3
   refine ⟨(x0.set i (markName x1), x1 + 1), ⟨by rw [List.length_set]; exact h1, by dsimp only; omega, fun j hj => ?_⟩, fun r hr => ev_succ ?_⟩
   ·dsimp only
    by_cases e : j = i
    ·subst e
     rw [List.getElem?_set_self (by omega), h2]
    ·rw [List.getElem?_set_ne (by omega)]
     exact h3 j (by omega)
   ·simp only [laws_markStringS.l0, if_pos (show (i : Int) < (x0.length : Int) by omega)]
    refine Ev.bind (mark_name (by omega) (by omega)) ?_
    simp only [if_pos (nnc i), toNat_cast, succ_cast hi (by omega), wrap_small (show -9223372036854775808 ≤ x1 + 1 by omega) (show x1 + 1 ≤ 9223372036854775807 by omega)]
    exact hr) l.length 0 (l, a) (by omega) (by omega) ⟨rfl, by dsimp only; omega, fun j hj => by omega⟩
theorem held_strs (l : List ByteArray) (hl : l.length ≤ 1000) (a : Int) (a0 : 0 < a) (a1 : a ≤ 1000000) (h : ∀ j : Nat, j < l.length → l[j]? = some (markName (a + (j : Int)))) : Ev (fun k => laws_heldStringS.f k l a) (a + (l.length : Int)) := by
 unfold laws_heldStringS.f
 obtain ⟨r, hr, hp⟩ := Ev_up (fun k (i : Nat) (s : Int) => laws_heldStringS.l0 k l s (i : Int)) l.length (fun i s => s = a + (i : Int)) (fun r => r = a + (l.length : Int))
  (fun s hs => ⟨s, ev_succ (by simp only [laws_heldStringS.l0, if_neg (no_lt l.length)]; exact Ev.now _), hs⟩)
  (fun i s hi hs => by
   right
   refine ⟨s + 1, by omega, fun r hr => ev_succ ?_⟩
   have hv : rdOf ByteArray.empty l (i : Int) = markName s := by
    rw [rdB hi]
    have := h i hi
    rw [List.getElem?_eq_getElem hi] at this
    rw [hs]
    exact Option.some.inj this
   simp only [laws_heldStringS.l0, if_pos (ltc hi), if_pos (nnc i)]
   refine Ev.bind (mark_name (by omega) (by omega)) ?_
   simp only [hv, if_true, succ_cast hi (by omega), wrap_small (show -9223372036854775808 ≤ s + 1 by omega) (show s + 1 ≤ 9223372036854775807 by omega)]
   exact hr) l.length 0 a (by omega) (by omega) (by omega)
 rw [hp] at hr
 exact hr
/-- The number that a kind's marks begin with. -/
def stK (l : List S76) : Nat → Int
 | 0 => 1
 | j + 1 => stK l j + ((l.getD j z76).f0.length : Int) + ((l.getD j z76).f1.length : Int)
theorem getK {l : List S76} {i : Nat} (h : i < l.length) : l.getD i z76 = l[i] := by simp [h]
theorem stK_bd (l : List S76) (hb : BK 60 l) : ∀ j : Nat, j ≤ l.length → 0 < stK l j ∧ stK l j ≤ 1 + 72 * (j : Int)
 | 0, _ => by show (0 : Int) < 1 ∧ (1 : Int) ≤ 1 + 72 * ((0 : Nat) : Int); omega
 | j + 1, h => by
  have ih := stK_bd l hb j (by omega)
  have hx := hb.2 _ (List.getElem_mem (show j < l.length by omega))
  unfold stK
  rw [getK (show j < l.length by omega)]
  omega
/-- A kind that is marked. -/
def mkd (l : List S76) (j : Nat) (x : S76) : Prop := x.f0.length = (l.getD j z76).f0.length ∧ x.f1.length = (l.getD j z76).f1.length ∧ (∀ t : Nat, t < x.f0.length → x.f0[t]? = some (markName (stK l j + (t : Int)))) ∧ (∀ t : Nat, t < x.f1.length → x.f1[t]? = some (stK l j + (x.f0.length : Int) + (t : Int)))
theorem mark_kinds (l : List S76) (hb : BK 60 l) : ∃ r : Int × List S76, Ev (fun k => laws_markKindS.f k l 1) r ∧ (r.1 = stK l l.length ∧ r.2.length = l.length ∧ ∀ j (h : j < r.2.length), mkd l j r.2[j]) := by
 unfold laws_markKindS.f
 have hlen := hb.1
 exact Ev_up (fun k (i : Nat) (s : List S76 × Int) => laws_markKindS.l0 k s.1 s.2 (i : Int)) l.length (fun i s => s.1.length = l.length ∧ s.2 = stK l i ∧ (∀ j (h : j < s.1.length), j < i → mkd l j s.1[j]) ∧ (∀ j, i ≤ j → s.1[j]? = l[j]?)) (fun r => r.1 = stK l l.length ∧ r.2.length = l.length ∧ ∀ j (h : j < r.2.length), mkd l j r.2[j])
  (fun s hs => ⟨(s.2, s.1), ev_succ (by simp only [laws_markKindS.l0, if_neg (show ¬ (l.length : Int) < (s.1.length : Int) by have := hs.1; omega)]; exact Ev.now _), hs.2.1, hs.1, fun j hj => hs.2.2.1 j hj (by have := hs.1; dsimp only at hj; omega)⟩)
  (fun i s hi hs => by
   right
   obtain ⟨x0, x1⟩ := s
   obtain ⟨h1, h2, h3, h4⟩ := hs
   dsimp only at h1 h2 h3 h4
   have hbd := stK_bd l hb i (by omega)
   have hg : x0.getD i z76 = l[i] := by rw [List.getD_eq_getElem?_getD, h4 i (Nat.le_refl _), List.getElem?_eq_getElem hi]; rfl
   have hx := hb.2 _ (List.getElem_mem hi)
   obtain ⟨r, hr, e1, e2, e3⟩ := mark_strs l[i].f0 (by omega) x1 (by omega) (by omega)
   obtain ⟨q, hq, g1, g2, g3⟩ := mark_ints l[i].f1 r.1 (by omega) (by omega) (by omega)
   refine ⟨(x0.set i ⟨r.2, q.2⟩, q.1), ⟨by rw [List.length_set]; exact h1, ?_, fun j hj hji => ?_, fun j hj => ?_⟩, fun v hv => ev_succ ?_⟩
   ·dsimp only
    unfold stK
    rw [getK hi]; omega
   ·dsimp only at hj ⊢
    rw [List.length_set] at hj
    by_cases e : j = i
    ·subst e
     rw [List.getElem_set_self]
     refine ⟨by rw [getK hi]; exact e2, by rw [getK hi]; exact g2, fun t ht => ?_, fun t ht => ?_⟩
     ·dsimp only at ht ⊢
      rw [e3 t (by omega), h2]
     ·dsimp only at ht ⊢
      rw [g3 t (by omega), e1, h2, e2]
    ·rw [List.getElem_set_ne (fun h => e h.symm)]
     exact h3 j (by omega) (by omega)
   ·dsimp only
    rw [List.getElem?_set_ne (by omega)]
    exact h4 j (by omega)
   ·simp only [laws_markKindS.l0, if_pos (show (i : Int) < (x0.length : Int) by omega), if_pos (nnc i), toNat_cast, hg, succ_cast hi (by omega)]
    exact Ev.bind hr (Ev.bind hq hv)) l.length 0 (l, 1) (by omega) (by omega) ⟨rfl, rfl, fun j _ hj => by omega, fun _ _ => rfl⟩
theorem held_kinds (l nq : List S76) (hb : BK 60 l) (hn : nq.length = l.length) (hm : ∀ j (h : j < nq.length), mkd l j nq[j]) : Ev (fun k => laws_heldKindS.f k nq 1) (stK l l.length) := by
 unfold laws_heldKindS.f
 have hlen := hb.1
 obtain ⟨r, hr, hp⟩ := Ev_up (fun k (i : Nat) (s : Int) => laws_heldKindS.l0 k nq s (i : Int)) nq.length (fun i s => s = stK l i) (fun r => r = stK l l.length)
  (fun s hs => ⟨s, ev_succ (by simp only [laws_heldKindS.l0, if_neg (no_lt nq.length)]; exact Ev.now _), by rw [← hn]; exact hs⟩)
  (fun i s hi hs => by
   right
   have hil : i < l.length := by omega
   have hbd := stK_bd l hb i (by omega)
   have hx := hb.2 _ (List.getElem_mem hil)
   obtain ⟨m0, m1, m2, m3⟩ := hm i hi
   rw [getK hil] at m0 m1
   have e1 := held_strs nq[i].f0 (by omega) s (by omega) (by omega) (fun t ht => by rw [hs]; exact m2 t ht)
   have e2 := held_ints nq[i].f1 (s + (nq[i].f0.length : Int)) (by omega) (by omega) (by omega) (fun t ht => by rw [hs]; exact m3 t ht)
   refine ⟨s + (nq[i].f0.length : Int) + (nq[i].f1.length : Int), ?_, fun r hr => ev_succ ?_⟩
   ·unfold stK
    rw [getK hil]; omega
   ·simp only [laws_heldKindS.l0, if_pos (ltc hi), if_pos (nnc i), rd76 hi]
    refine Ev.bind e1 ?_
    simp only [if_neg (show ¬ s + (nq[i].f0.length : Int) < 0 by omega)]
    refine Ev.bind e2 ?_
    simp only [if_neg (show ¬ s + (nq[i].f0.length : Int) + (nq[i].f1.length : Int) < 0 by omega), succ_cast hi (by omega)]
    exact hr) nq.length 0 1 (by omega) (by omega) rfl
 rw [hp] at hr
 exact hr
/-! #### kinds are what they are -/
theorem eq_strs (l : List ByteArray) (hl : l.length ≤ 1000) : Ev (fun k => laws_eqStringS.f k l l) true := by
 unfold laws_eqStringS.f
 simp only [if_true]
 refine ev_trues (n := l.length) (fun k i => laws_eqStringS.l0 k l l i) (fun _ _ => some true) (fun _ _ => Ev.now _) ?_ ?_
 ·intro k i hi
  simp only [laws_eqStringS.l0, if_pos (ltc hi), if_pos (nnc i), if_true, Option.bind_some, succ_cast hi (by omega)]
 ·intro k
  simp only [laws_eqStringS.l0, if_neg (no_lt l.length)]
theorem eq_nums (l : List Int) (hl : l.length ≤ 1000) : Ev (fun k => laws_eqIntS.f k l l) true := by
 unfold laws_eqIntS.f
 simp only [if_true]
 refine ev_trues (n := l.length) (fun k i => laws_eqIntS.l0 k l l i) (fun _ _ => some true) (fun _ _ => Ev.now _) ?_ ?_
 ·intro k i hi
  simp only [laws_eqIntS.l0, if_pos (ltc hi), if_pos (nnc i), if_true, Option.bind_some, succ_cast hi (by omega)]
 ·intro k
  simp only [laws_eqIntS.l0, if_neg (no_lt l.length)]
theorem eq_kinds (l : List S76) (hb : BK 60 l) : Ev (fun k => laws_eqKindS.f k l l) true := by
 have hlen := hb.1
 unfold laws_eqKindS.f
 simp only [if_true]
 refine ev_trues (n := l.length) (fun k i => laws_eqKindS.l0 k l l i) (fun k i => laws_eqKind.f k (rd_T76 l (i : Int)).f0 (rd_T76 l (i : Int)).f1 (rd_T76 l (i : Int)).f0 (rd_T76 l (i : Int)).f1) (fun i hi => ?_) ?_ ?_
 ·have hx := hb.2 _ (List.getElem_mem hi)
  rw [rd76 hi]
  unfold laws_eqKind.f
  refine Ev.bind (eq_strs _ (by omega)) ?_
  simp only [if_true]
  refine Ev.bind (eq_nums _ (by omega)) ?_
  simp only [if_true]
  exact Ev.now _
 ·intro k i hi
  simp only [laws_eqKindS.l0, if_pos (ltc hi), if_pos (nnc i), succ_cast hi (by omega)]
 ·intro k
  simp only [laws_eqKindS.l0, if_neg (no_lt l.length)]
/-! #### a good world is small -/
theorem ents_small (n t : Int) (l : List S69) (d : Nat) : ∀ i : Nat, i + d = l.length → entsFrom n t l d i = true → ∀ j (h : j < l.length), i ≤ j → l[j].f1.length ≤ 12 := by
 induction d with
 | zero => intro i hd _ j hj hij; omega
 | succ d ih =>
  intro i hd he j hj hij
  unfold entsFrom okEnt at he
  simp only [Bool.and_eq_true, decide_eq_true_eq] at he
  by_cases e : j = i
  ·subst e
   have := he.1.2.2.1
   rw [getE hj] at this
   omega
  ·exact ih (i + 1) (by omega) he.2 j hj (by omega)
theorem world_small {n t : Int} {l : List S69} (h : worldB n t l = true) : l.length ≤ 60 ∧ ∀ e ∈ l, e.f1.length ≤ 12 := by
 unfold worldB at h
 simp only [Bool.and_eq_true, decide_eq_true_eq] at h
 refine ⟨by omega, fun e he => ?_⟩
 obtain ⟨j, hj, rfl⟩ := List.getElem_of_mem he
 exact ents_small n t l l.length 0 (by omega) h.1 j hj (by omega)
theorem kinds_both (n t : Int) (l : List S69) (hg : GoodW l) : ∃ (V : List S76) (b : Bool), BK 60 V ∧ Ev (fun k => spec_KindsOf.f k n t l) (V, b) ∧ Ev (fun k => impl_KindsOf.f k n t l) (V, b) := by
 have hs := spec_world n t l hg
 have hi := impl_world n t l hg
 cases hB : worldB n t l with
 | false =>
  rw [hB] at hs hi
  refine ⟨[], false, ⟨by show 0 ≤ 60; omega, fun x hx => by cases hx⟩, ?_, ?_⟩
  ·unfold spec_KindsOf.f
   refine Ev.bind hs ?_
   simp only [Bool.false_eq_true, if_false]
   exact Ev.now _
  ·unfold impl_KindsOf.f
   refine Ev.bind hi ?_
   simp only [Bool.false_eq_true, if_false]
   exact Ev.now _
 | true =>
  rw [hB] at hs hi
  obtain ⟨h1, h2⟩ := world_small hB
  obtain ⟨V, hV, h3, h4⟩ := kinds_one l h1 h2
  refine ⟨V, true, hV, ?_, ?_⟩
  ·unfold spec_KindsOf.f
   refine Ev.bind hs ?_
   simp only [if_true]
   exact h3
  ·unfold impl_KindsOf.f
   refine Ev.bind hi ?_
   simp only [if_true]
   exact h4
theorem FnExactKindsOf : laws_FnExactKindsOf_Pure := by
 intro n t l _ _ hl
 have h1 : l.length ≤ 4398046511104 := by omega
 have hp : ∀ x ∈ l, x.f1.length ≤ 4398046511104 ∧ ∀ y ∈ x.f1, y.f0.size ≤ 140737488351232 := fun x hx => by
  have g := (hl.2.2 x hx).2
  exact ⟨by omega, fun y hy => (g.2.2 y hy).1⟩
 have hg : GoodW (l.map entOf) := by
  refine ⟨by rw [List.length_map]; exact h1, fun x hx => ?_⟩
  obtain ⟨y, hy, rfl⟩ := List.mem_map.1 hx
  have g := hp y hy
  refine ⟨by show (y.f1.map partOf).length ≤ _; rw [List.length_map]; exact g.1, fun p hq => ?_⟩
  obtain ⟨q, hq1, rfl⟩ := List.mem_map.1 hq
  exact g.2 q hq1
 apply Ev.rounds (r := true)
 unfold laws_FnExactKindsOf.f
 obtain ⟨v, hv, hvb⟩ := szw n t l h1 hp
 refine Ev.bind hv ?_
 by_cases h : v < 0
 ·simp only [if_pos h]
  exact Ev.now true
 ·simp only [if_neg h]
  obtain ⟨s1, s2⟩ := hvb h
  refine Ev.bind (to_world n t l h1 (fun x hx => (hp x hx).1)) ?_
  obtain ⟨V, b, hV, hs, hi⟩ := kinds_both n t (l.map entOf) hg
  obtain ⟨m, hm, hm0⟩ := mark_ents (l.map entOf) (by rw [List.length_map]; exact s1) (fun x hx => by
   obtain ⟨y, hy, rfl⟩ := List.mem_map.1 hx
   show (y.f1.map partOf).length ≤ _
   rw [List.length_map]
   exact s2 y hy)
  obtain ⟨r, hr, e1, e2, e3⟩ := mark_kinds V hV
  have hh := held_kinds V r.2 hV e2 e3
  have hq := (stK_bd V hV V.length (Nat.le_refl _)).1
  have hm2 : Ev (fun k => laws_markWorld.f k n t (l.map entOf) 1) m := hm
  dsimp only
  refine Ev.bind hs ?_
  refine Ev.bind hi ?_
  refine Ev.bind (eq_kinds V hV) ?_
  refine Ev.bind (eq_world n t _ hg.1 (fun x hx => (hg.2 x hx).1)) ?_
  refine Ev.bind hm2 ?_
  refine Ev.bind hr ?_
  refine Ev.bind hh ?_
  rw [if_pos ⟨rfl, rfl, rfl, hm0, e1.symm, by omega⟩]
  exact Ev.now true
end Go.Proofs.Ytiaajmnmbjheoaa.Pure
