/- The program's GoodAction and the reference's answer alike at every action. No condition. -/
import Derived.Test.YtbmijcalkofegaaPFnExactGoodActionx2
namespace Go.Proofs.Ytbmijcalkofegaa.Pure
open Go.RowKit Go.Proofs.Ytbmijcalkofegaa.PFnExactGoodAction Go.Proofs.YtbmijcalkofegaaW.PrintWords Go.Proofs.YtbmijcalkofegaaW.PrintLast Go.Proofs.YtbmijcalkofegaaW.PrintMore
set_option linter.unusedVariables false
set_option linter.unusedSimpArgs false
/-- The one pure statement. -/
def laws_FnExactGoodAction_Pure : Prop := ∀ (a0_0 : ByteArray) (a0_1 : Int) (a0_2 : Int) (a0_3 : Int) (a0_4 : Int) (a0_5 : Int), ByteArray.size a0_0 ≤ 140737488351232 → (Lit.int .i64 a0_1).wf = true → (Lit.int .i64 a0_2).wf = true → (Lit.int .i64 a0_3).wf = true → (Lit.int .i64 a0_4).wf = true → (Lit.int .i64 a0_5).wf = true → ∃ k, laws_FnExactGoodAction.f k a0_0 a0_1 a0_2 a0_3 a0_4 a0_5 = some true
/-! #### whole numbers: wraps, quotients towards nought -/
theorem wrap_small {i : Int} (h0 : -9223372036854775808 ≤ i) (h1 : i ≤ 9223372036854775807) : wrap64 i = i := by unfold wrap64; omega
theorem tdiv_pos {a b : Int} (ha : 0 ≤ a) : Int.tdiv a b = a / b := Int.tdiv_eq_ediv_of_nonneg ha
theorem tmod_pos {a b : Int} (ha : 0 ≤ a) : Int.tmod a b = a % b := Int.tmod_eq_emod_of_nonneg ha
theorem tdiv_neg' {a b : Int} (ha : a < 0) : Int.tdiv a b = -((-a) / b) := by
  rw [← Int.tdiv_eq_ediv_of_nonneg (a := -a) (by omega), Int.neg_tdiv, Int.neg_neg]
theorem tmod_neg' {a b : Int} (ha : a < 0) : Int.tmod a b = -((-a) % b) := by
  rw [← Int.tmod_eq_emod_of_nonneg (a := -a) (by omega), Int.neg_tmod, Int.neg_neg]
theorem wf64 {a : Int} (h : (Lit.int .i64 a).wf = true) : -9223372036854775808 ≤ a ∧ a ≤ 9223372036854775807 := by
  simp [Lit.wf, IntKind.min, IntKind.max, IntKind.signed, IntKind.bits] at h
  omega
theorem ev_succ {α : Type} {g : Nat → Option α} {r : α} (h : Ev (fun k => g (k + 1)) r) : Ev g r := Ev.step (f := fun k => g (k + 1)) (fun _ => rfl) h
theorem ev_eq {α : Type} {g : Nat → Option α} {r : α} (h : ∀ k, g k = some r) : Ev g r := ⟨0, fun k _ => h k⟩
theorem ev_val {α : Type} {g : Nat → Option α} {r r' : α} (h : Ev g r) (e : r = r') : Ev g r' := e ▸ h
/-! #### is a number in a span -/
def inB (a b c : Int) : Bool := decide (b ≤ a ∧ a ≤ c)
theorem inB_iff {a b c : Int} : inB a b c = true ↔ b ≤ a ∧ a ≤ c := by unfold inB; rw [decide_eq_true_eq]
theorem spec_in (a b c : Int) : spec_l1In.f a b c = some (inB a b c) := by
  unfold spec_l1In.f inB
  by_cases h : a ≥ b
  · rw [if_pos h]; congr 1; rw [decide_eq_decide]; omega
  · rw [if_neg h]; congr 1; exact (decide_eq_false (by omega)).symm
theorem impl_in (a b c : Int) : impl_inRange.f a b c = some (inB a b c) := by
  unfold impl_inRange.f inB
  by_cases h : b ≤ a
  · rw [if_pos h]; congr 1; rw [decide_eq_decide]; omega
  · rw [if_neg h]; congr 1; exact (decide_eq_false (by omega)).symm
/-! #### names -/
/-- one byte of a name: a letter or an underscore -/
def letterB (c : Int) : Bool := decide (97 ≤ c ∧ c ≤ 122) || decide (65 ≤ c ∧ c ≤ 90) || decide (c = 95)
def digitB (c : Int) : Bool := decide (48 ≤ c ∧ c ≤ 57)
/-- what a good name is -/
def NameOk (s : ByteArray) : Prop := 1 ≤ s.size ∧ s.size ≤ 20 ∧ ∀ j, j < s.size → (letterB (bt s (j : Nat)) = true ∨ (j ≠ 0 ∧ digitB (bt s (j : Nat)) = true))
instance (s : ByteArray) : Decidable (NameOk s) := by unfold NameOk; infer_instance
def nameB (s : ByteArray) : Bool := decide (NameOk s)
theorem spec_digit (c : Int) : spec_l1Digit.f c = some (digitB c) := by
  unfold spec_l1Digit.f digitB
  by_cases h : c ≥ 48
  · rw [if_pos h]; congr 1; simp; omega
  · rw [if_neg h]; congr 1; simp; omega
theorem spec_letter (c : Int) : spec_l1Letter.f c = some (letterB c) := by
  unfold spec_l1Letter.f letterB
  repeat' split
  all_goals (congr 1; rw [Bool.eq_iff_iff]; simp; try omega)
theorem impl_digit (c : Int) : impl_isDigit.f c = some (digitB c) := by
  unfold impl_isDigit.f digitB
  by_cases h : c ≥ 48
  · rw [if_pos h]; congr 1; simp; omega
  · rw [if_neg h]; congr 1; simp; omega
theorem impl_letter (c : Int) : impl_isLetter.f c = some (letterB c && decide (c ≠ 95)) := by
  unfold impl_isLetter.f letterB
  repeat' split
  all_goals (congr 1; rw [Bool.eq_iff_iff]; simp; try omega)
theorem spec_name_loop (s : ByteArray) (hs : s.size ≤ 140737488351232) (h0 : digitB (bt s 0) = false) (d : Nat) : ∀ i : Nat, s.size - i = d → i ≤ s.size →
    ∃ b, Ev (fun k => spec_GoodName.l0 k s i) b ∧ (b = true ↔ ∀ j, i ≤ j → j < s.size → (letterB (bt s (j : Nat)) = true ∨ (j ≠ 0 ∧ digitB (bt s (j : Nat)) = true))) := by
  induction d with
  | zero =>
    intro i hd hi
    refine ⟨true, Ev.step (fun k => by simp only [spec_GoodName.l0]; rw [if_neg (by omega)]) (Ev.now true), ⟨fun _ j h1 h2 => by omega, fun _ => rfl⟩⟩
  | succ d ih =>
    intro i hd hi
    obtain ⟨b, hb, hiff⟩ := ih (i + 1) (by omega) (by omega)
    have hw : wrap64 ((i : Int) + 1) = ((i + 1 : Nat) : Int) := by rw [wrap_small (by omega) (by omega)]; omega
    by_cases hl : letterB (bt s (i : Nat)) = true
    · refine ⟨b, Ev.step (fun k => by simp only [spec_GoodName.l0]; rw [if_pos (by omega), if_pos (by omega), spec_letter, hl, hw]; simp only [Option.bind_some, if_true]) hb, hiff.trans ⟨fun h j h1 h2 => ?_, fun h j h1 h2 => h j (by omega) h2⟩⟩
      by_cases e : j = i
      · subst e; exact .inl hl
      · exact h j (by omega) h2
    · have hl' : letterB (bt s (i : Nat)) = false := by simpa using hl
      by_cases hg : digitB (bt s (i : Nat)) = true
      · have hi0 : i ≠ 0 := by
          rintro rfl
          rw [show ((0 : Nat) : Int) = 0 from rfl, h0] at hg
          cases hg
        refine ⟨b, Ev.step (fun k => by simp only [spec_GoodName.l0]; rw [if_pos (by omega), if_pos (by omega), spec_letter, hl', spec_digit, hg, hw]; simp only [Option.bind_some, if_true, Bool.false_eq_true, if_false]) hb, hiff.trans ⟨fun h j h1 h2 => ?_, fun h j h1 h2 => h j (by omega) h2⟩⟩
        by_cases e : j = i
        · subst e; exact .inr ⟨hi0, hg⟩
        · exact h j (by omega) h2
      · have hg' : digitB (bt s (i : Nat)) = false := by simpa using hg
        refine ⟨false, Ev.step (fun k => by simp only [spec_GoodName.l0]; rw [if_pos (by omega), if_pos (by omega), spec_letter, hl', spec_digit, hg']; simp only [Option.bind_some, Bool.false_eq_true, if_false]) (Ev.now false), ⟨fun h => (Bool.false_ne_true h).elim, fun h => ?_⟩⟩
        rcases h i (Nat.le_refl _) (by omega) with h | ⟨_, h⟩
        · exact absurd h hl
        · exact absurd h hg
theorem spec_name (s : ByteArray) (hs : s.size ≤ 140737488351232) : Ev (fun k => spec_GoodName.f k s) (nameB s) := by
  unfold spec_GoodName.f nameB
  by_cases h1 : (s.size : Int) < 1
  · have : decide (NameOk s) = false := decide_eq_false (by unfold NameOk; omega)
    simp only [if_pos h1, this]
    exact Ev.step (fun k => by simp only [spec_GoodName.j0, if_true]) (Ev.now false)
  · by_cases h2 : (s.size : Int) > 20
    · have : decide (NameOk s) = false := decide_eq_false (by unfold NameOk; omega)
      simp only [if_neg h1, if_pos h2, this]
      exact Ev.step (fun k => by simp only [spec_GoodName.j0, if_true]) (Ev.now false)
    · simp only [if_neg h1, if_neg h2, if_pos (show 0 < (s.size : Int) by omega), spec_digit, Option.bind_some]
      by_cases hd : digitB (bt s 0) = true
      · have : decide (NameOk s) = false := decide_eq_false (fun hn => by
          rcases hn.2.2 0 (by omega) with h | ⟨h, _⟩
          · rw [show ((0 : Nat) : Int) = 0 from rfl] at h
            revert hd h
            unfold digitB letterB
            simp
            omega
          · exact h rfl)
        simp only [hd, this]
        exact Ev.step (fun k => by simp only [spec_GoodName.j0, if_true]) (Ev.now false)
      · have hd' : digitB (bt s 0) = false := by simpa using hd
        obtain ⟨b, hb, hiff⟩ := spec_name_loop s hs hd' s.size 0 (by omega) (by omega)
        have : b = decide (NameOk s) := by
          rw [Bool.eq_iff_iff, hiff]
          simp only [decide_eq_true_eq]
          exact ⟨fun h => ⟨by omega, by omega, fun j hj => h j (Nat.zero_le _) hj⟩, fun h j _ hj => h.2.2 j hj⟩
        rw [← this]
        simp only [hd']
        exact Ev.step (fun k => by simp only [spec_GoodName.j0, Bool.false_eq_true, if_false]; rfl) hb
theorem impl_name_loop (s : ByteArray) (hs : s.size ≤ 140737488351232) (d : Nat) : ∀ i : Nat, s.size - i = d → i ≤ s.size →
    ∃ b, Ev (fun k => impl_GoodName.l0 k s s.size i) b ∧ (b = true ↔ (1 ≤ s.size ∧ s.size ≤ 20 ∧ ∀ j, i ≤ j → j < s.size → (letterB (bt s (j : Nat)) = true ∨ (j ≠ 0 ∧ digitB (bt s (j : Nat)) = true)))) := by
  induction d with
  | zero =>
    intro i hd hi
    refine ⟨decide (1 ≤ s.size ∧ s.size ≤ 20), Ev.step (fun k => ?_) (Ev.now _), ?_⟩
    · simp only [impl_GoodName.l0]; rw [if_neg (by omega)]
      unfold impl_inRange.f
      by_cases h : (1 : Int) ≤ s.size
      · rw [if_pos h]; simp only [Option.bind_some, Option.some.injEq, decide_eq_decide]; omega
      · rw [if_neg h, decide_eq_false (p := 1 ≤ s.size ∧ s.size ≤ 20) (by omega)]; rfl
    · simp only [decide_eq_true_eq]
      exact ⟨fun h => ⟨h.1, h.2, fun j h1 h2 => by omega⟩, fun h => ⟨h.1, h.2.1⟩⟩
  | succ d ih =>
    intro i hd hi
    obtain ⟨b, hb, hiff⟩ := ih (i + 1) (by omega) (by omega)
    have hw : wrap64 ((i : Int) + 1) = ((i + 1 : Nat) : Int) := by rw [wrap_small (by omega) (by omega)]; omega
    have yes (hok : letterB (bt s (i : Nat)) = true ∨ (i ≠ 0 ∧ digitB (bt s (i : Nat)) = true)) : (b = true ↔ (1 ≤ s.size ∧ s.size ≤ 20 ∧ ∀ j, i ≤ j → j < s.size → (letterB (bt s (j : Nat)) = true ∨ (j ≠ 0 ∧ digitB (bt s (j : Nat)) = true)))) := by
      refine hiff.trans ⟨fun h => ⟨h.1, h.2.1, fun j h1 h2 => ?_⟩, fun h => ⟨h.1, h.2.1, fun j h1 h2 => h.2.2 j (by omega) h2⟩⟩
      by_cases e : j = i
      · subst e; exact hok
      · exact h.2.2 j (by omega) h2
    have no (hok : ¬ (letterB (bt s (i : Nat)) = true ∨ (i ≠ 0 ∧ digitB (bt s (i : Nat)) = true))) : (false = true ↔ (1 ≤ s.size ∧ s.size ≤ 20 ∧ ∀ j, i ≤ j → j < s.size → (letterB (bt s (j : Nat)) = true ∨ (j ≠ 0 ∧ digitB (bt s (j : Nat)) = true)))) :=
      ⟨fun h => (Bool.false_ne_true h).elim, fun h => absurd (h.2.2 i (Nat.le_refl _) (by omega)) hok⟩
    have step (k : Nat) : impl_GoodName.l0 (k + 1) s s.size i = (impl_isLetter.f (bt s i)).bind fun t105 => (if t105 = true then (impl_GoodName.l0 k s s.size ((i + 1 : Nat) : Int)) else (if (bt s i) = 95 then (impl_GoodName.l0 k s s.size ((i + 1 : Nat) : Int)) else (if (i : Int) = 0 then (some false) else ((impl_isDigit.f (bt s i)).bind fun t106 => (if t106 = true then (impl_GoodName.l0 k s s.size ((i + 1 : Nat) : Int)) else (some false)))))) := by
      simp only [impl_GoodName.l0]; rw [if_pos (by omega), if_pos (by omega), if_pos (by omega), hw]
    by_cases hu : bt s (i : Nat) = 95
    · have hl : letterB (bt s (i : Nat)) = true := by unfold letterB; simp [hu]
      refine ⟨b, Ev.step (fun k => ?_) hb, yes (.inl hl)⟩
      rw [step, impl_letter]; simp [hu]
    · by_cases hl : letterB (bt s (i : Nat)) = true
      · refine ⟨b, Ev.step (fun k => ?_) hb, yes (.inl hl)⟩
        rw [step, impl_letter]; simp [hl, hu]
      · have hl' : letterB (bt s (i : Nat)) = false := by simpa using hl
        by_cases hi0 : i = 0
        · refine ⟨false, Ev.step (fun k => ?_) (Ev.now false), no (fun h => ?_)⟩
          · rw [step, impl_letter]; subst hi0; simp only [hl', Bool.false_and, Option.bind_some, Bool.false_eq_true, if_false, if_neg hu]; rfl
          · rcases h with h | ⟨h, _⟩
            · exact absurd h hl
            · exact h hi0
        · by_cases hg : digitB (bt s (i : Nat)) = true
          · refine ⟨b, Ev.step (fun k => ?_) hb, yes (.inr ⟨hi0, hg⟩)⟩
            rw [step, impl_letter, impl_digit]; simp only [hl', hg, Bool.false_and, Option.bind_some, Bool.false_eq_true, if_false, if_neg hu, if_true]; rw [if_neg (by omega)]
          · have hg' : digitB (bt s (i : Nat)) = false := by simpa using hg
            refine ⟨false, Ev.step (fun k => ?_) (Ev.now false), no (fun h => ?_)⟩
            · rw [step, impl_letter, impl_digit]; simp only [hl', hg', Bool.false_and, Option.bind_some, Bool.false_eq_true, if_false, if_neg hu]; rw [if_neg (by omega)]
            · rcases h with h | ⟨_, h⟩
              · exact absurd h hl
              · exact absurd h hg
theorem impl_name (s : ByteArray) (hs : s.size ≤ 140737488351232) : Ev (fun k => impl_GoodName.f k s) (nameB s) := by
  obtain ⟨b, hb, hiff⟩ := impl_name_loop s hs s.size 0 (by omega) (by omega)
  have : b = nameB s := by
    rw [Bool.eq_iff_iff, hiff]
    unfold nameB
    rw [decide_eq_true_eq]
    unfold NameOk
    simp only [Nat.zero_le, true_implies]
  rw [← this]
  exact hb
/-! #### facts -/
theorem spec_fact (a : Int) : spec_l7Facts.f a = some (inB a 0 255) := by unfold spec_l7Facts.f; rw [spec_in]; rfl
theorem impl_facts (l : List Int) : impl_areFacts.f l = some (l.all fun a => inB a 0 255) := by
  unfold impl_areFacts.f
  have h : anyO impl_areFacts.on l = some (l.any fun a => !(inB a 0 255)) := anyO_some _ (fun a _ => by
    unfold impl_areFacts.on impl_areFacts_1.f
    rw [impl_in]; rfl)
  rw [h]
  simp only [Option.bind_some]
  congr 1
  rw [List.not_any_eq_all_not]
  simp
/-! #### actions -/
def actionB (s : ByteArray) (c n l g o : Int) : Bool := nameB s && (inB c 1 1000 && (inB n 0 255 && (inB l 0 255 && (inB g 0 255 && (inB o 0 255 && (Go.bits .and .i64 g o == 0))))))
theorem spec_action (s : ByteArray) (hs : s.size ≤ 140737488351232) (c n l g o : Int) : Ev (fun k => spec_GoodAction.f k s c n l g o) (actionB s c n l g o) := by
  unfold spec_GoodAction.f actionB
  simp only [spec_in, spec_fact, Option.bind_some]
  refine Ev.bind (spec_name s hs) ?_
  cases nameB s <;> cases inB c 1 1000 <;> cases inB n 0 255 <;> cases inB l 0 255 <;> cases inB g 0 255 <;> cases inB o 0 255 <;> simp only [if_true, Bool.false_eq_true, if_false, Bool.false_and, Bool.true_and] <;> exact Ev.now _
theorem impl_action (s : ByteArray) (hs : s.size ≤ 140737488351232) (c n l g o : Int) : Ev (fun k => impl_GoodAction.f k s c n l g o) (actionB s c n l g o) := by
  unfold impl_GoodAction.f actionB
  simp only [impl_in, impl_facts, Option.bind_some, List.all_cons, List.all_nil, Bool.and_true]
  refine Ev.bind (impl_name s hs) ?_
  cases nameB s <;> cases inB c 1 1000 <;> cases inB n 0 255 <;> cases inB l 0 255 <;> cases inB g 0 255 <;> cases inB o 0 255 <;> simp only [if_true, Bool.false_eq_true, if_false, Bool.false_and, Bool.true_and] <;> exact Ev.now _
theorem FnExactGoodAction : laws_FnExactGoodAction_Pure := by
  intro s c n l g o hs _ _ _ _ _
  apply Ev.rounds (r := true)
  unfold laws_FnExactGoodAction.f laws_szAction.f laws_toAction.f
  rw [wrap_small (by omega) (by omega)]
  by_cases h : (1048576 : Int) - (s.size : Int) < 0
  · simp only [if_pos h, Option.bind_some, show (-1 : Int) < 0 from by decide, if_true]
    exact Ev.now true
  · simp only [if_neg h, Option.bind_some]
    refine Ev.bind (spec_action s hs c n l g o) (Ev.bind (impl_action s hs c n l g o) ?_)
    simp only [bne_self_eq_false, Bool.false_eq_true, if_false]
    exact Ev.now true
end Go.Proofs.Ytbmijcalkofegaa.Pure
