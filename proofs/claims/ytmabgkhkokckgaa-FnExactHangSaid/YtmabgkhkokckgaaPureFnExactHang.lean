/- The program's Hang and the reference's answer alike at every arguments. No condition. -/
import Derived.Test.YtmabgkhkokckgaaPFnExactHangx12
namespace Go.Proofs.Ytmabgkhkokckgaa.Pure
open Go.RowKit Go.Proofs.Ytmabgkhkokckgaa.PFnExactHang Go.Proofs.YtmabgkhkokckgaaW.PrintWords Go.Proofs.YtmabgkhkokckgaaW.PrintLast Go.Proofs.YtmabgkhkokckgaaW.PrintMore
set_option linter.unusedVariables false
set_option linter.unusedSimpArgs false
/-- What can be read as a datum of type 72. -/
def Good72 (x : S72) : Prop := ByteArray.size x.f0 ≤ 140737488351232 ∧ (Lit.int .i64 x.f1).wf = true ∧ (Lit.int .i64 x.f2).wf = true ∧ (Lit.int .i64 x.f3).wf = true ∧ (Lit.int .i64 x.f4).wf = true ∧ True
/-- The one pure statement. -/
def laws_FnExactHang_Pure : Prop := ∀ (l0 : (List S72)) (a1 : Int) (a2 : Int), (List.length l0 ≤ maxLen ∧ List.length l0 * 56 ≤ 140737488351232 ∧ ∀ y ∈ l0, Good72 y) → (Lit.int .i64 a1).wf = true → (Lit.int .i64 a2).wf = true → ∃ k, laws_FnExactHang.f k l0 a1 a2 = some true
/-! #### whole numbers: wraps, quotients towards nought -/
theorem wrap_small {i : Int} (h0 : -9223372036854775808 ≤ i) (h1 : i ≤ 9223372036854775807) : wrap64 i = i := by unfold wrap64; omega
theorem tdiv_pos {a b : Int} (ha : 0 ≤ a) : Int.tdiv a b = a / b := Int.tdiv_eq_ediv_of_nonneg ha
theorem tmod_pos {a b : Int} (ha : 0 ≤ a) : Int.tmod a b = a % b := Int.tmod_eq_emod_of_nonneg ha
theorem tdiv_neg' {a b : Int} (ha : a < 0) : Int.tdiv a b = -((-a) / b) := by
  rw [← Int.tdiv_eq_ediv_of_nonneg (a := -a) (by omega), Int.neg_tdiv, Int.neg_neg]
theorem tmod_neg' {a b : Int} (ha : a < 0) : Int.tmod a b = -((-a) % b) := by
  rw [← Int.tmod_eq_emod_of_nonneg (a := -a) (by omega), Int.neg_tmod, Int.neg_neg]
theorem wf64 {a : Int} (h : (Lit.int .i64 a).wf = true) : -9223372036854775808 ≤ a ∧ a ≤ 9223372036854775807 := by
  simp [Lit.wf, IntKind.min, IntKind.max, IntKind.signed, IntKind.bits] at h
  omega
theorem ev_succ {α : Type} {g : Nat → Option α} {r : α} (h : Ev (fun k => g (k + 1)) r) : Ev g r := Ev.step (f := fun k => g (k + 1)) (fun _ => rfl) h
theorem ev_eq {α : Type} {g : Nat → Option α} {r : α} (h : ∀ k, g k = some r) : Ev g r := ⟨0, fun k _ => h k⟩
theorem ev_val {α : Type} {g : Nat → Option α} {r r' : α} (h : Ev g r) (e : r = r') : Ev g r' := e ▸ h
/-! #### is a number in a span -/
def inB (a b c : Int) : Bool := decide (b ≤ a ∧ a ≤ c)
theorem inB_iff {a b c : Int} : inB a b c = true ↔ b ≤ a ∧ a ≤ c := by unfold inB; rw [decide_eq_true_eq]
theorem spec_in (a b c : Int) : spec_l1In.f a b c = some (inB a b c) := by
  unfold spec_l1In.f inB
  by_cases h : a ≥ b
  · rw [if_pos h]; congr 1; rw [decide_eq_decide]; omega
  · rw [if_neg h]; congr 1; exact (decide_eq_false (by omega)).symm
theorem impl_in (a b c : Int) : impl_inRange.f a b c = some (inB a b c) := by
  unfold impl_inRange.f inB
  by_cases h : b ≤ a
  · rw [if_pos h]; congr 1; rw [decide_eq_decide]; omega
  · rw [if_neg h]; congr 1; exact (decide_eq_false (by omega)).symm
/-! #### loops that go up, from a place on -/
theorem Ev_up {σ ρ : Type} (g : Nat → Nat → σ → Option ρ) (n : Nat) (Inv : Nat → σ → Prop) (Post : ρ → Prop)
    (hend : ∀ s, Inv n s → ∃ r, Ev (fun k => g k n s) r ∧ Post r)
    (hstep : ∀ i s, i < n → Inv i s → (∃ r, Ev (fun k => g k i s) r ∧ Post r) ∨ (∃ s', Inv (i + 1) s' ∧ ∀ r, Ev (fun k => g k (i + 1) s') r → Ev (fun k => g k i s) r))
    (d : Nat) : ∀ i s, n - i = d → i ≤ n → Inv i s → ∃ r, Ev (fun k => g k i s) r ∧ Post r := by
  induction d with
  | zero =>
    intro i s hd hi hs
    obtain rfl : i = n := by omega
    exact hend s hs
  | succ d ih =>
    intro i s hd hi hs
    rcases hstep i s (by omega) hs with h | ⟨s', hs', hg⟩
    · exact h
    · obtain ⟨r, hr, hp⟩ := ih (i + 1) s' (by omega) (by omega) hs'
      exact ⟨r, hg r hr, hp⟩
theorem succ_cast {i n : Nat} (h : i < n) (hn : n ≤ 9223372036854775806) : wrap64 ((i : Int) + 1) = ((i + 1 : Nat) : Int) := by
  rw [wrap_small (by omega) (by omega)]; omega
theorem drop_cons {α : Type} {l : List α} {i : Nat} (h : i < l.length) : l.drop i = l[i] :: l.drop (i + 1) := List.drop_eq_getElem_cons h
theorem rd_at {l : List Int} {i : Nat} (h : i < l.length) : rd l (i : Int) = l[i] := by simp [rd, h]
/-! #### loops that copy and loops that compare -/
theorem set_step {α β : Type} (g : α → β) (z : β) (l : List α) (i : Nat) (hi : i < l.length) : ((l.take i).map g ++ List.replicate (l.length - i) z).set i (g l[i]) = (l.take (i + 1)).map g ++ List.replicate (l.length - (i + 1)) z := by
  have e : l.length - i = (l.length - (i + 1)) + 1 := by omega
  have hl : ((l.take i).map g).length = i := by rw [List.length_map, List.length_take]; omega
  rw [e, List.replicate_succ, List.set_append_right _ _ (by omega), hl, Nat.sub_self, List.set_cons_zero, List.take_succ_eq_append_getElem hi, List.map_append, List.append_assoc]
  rfl
/-- A loop that sets each place of a fresh list. -/
theorem ev_map {α β : Type} (l : List α) (z : β) (g : α → β) (F : Nat → List β → Int → Option (List β)) (G : Nat → α → Option β) (hG : ∀ i (hi : i < l.length), Ev (fun k => G k l[i]) (g l[i]))
    (hstep : ∀ k (x : List β) (i : Nat) (hi : i < l.length), x.length = l.length → F (k + 1) x (i : Int) = (G k l[i]).bind fun v => F k (x.set i v) ((i + 1 : Nat) : Int))
    (hend : ∀ k (x : List β), F (k + 1) x (l.length : Int) = some x) : Ev (fun k => F k (List.replicate l.length z) 0) (l.map g) := by
  have main : ∀ d i, l.length - i = d → i ≤ l.length → Ev (fun k => F k ((l.take i).map g ++ List.replicate (l.length - i) z) (i : Int)) (l.map g) := by
    intro d
    induction d with
    | zero =>
      intro i hd hi
      obtain rfl : i = l.length := by omega
      refine ev_succ ?_
      simp only [hend, Nat.sub_self, List.replicate_zero, List.append_nil, List.take_length]
      exact Ev.now _
    | succ d ih =>
      intro i hd hi
      have hlt : i < l.length := by omega
      refine ev_succ ?_
      have hx : ((l.take i).map g ++ List.replicate (l.length - i) z).length = l.length := by
        rw [List.length_append, List.length_map, List.length_take, List.length_replicate]; omega
      simp only [hstep _ _ i hlt hx]
      refine Ev.bind (hG i hlt) ?_
      simp only [set_step g z l i hlt]
      exact ih (i + 1) (by omega) (by omega)
  have := main l.length 0 (by omega) (by omega)
  simp only [List.take_zero, List.map_nil, List.nil_append, Nat.sub_zero] at this
  exact this
/-- A loop that asks each place, and every place answers true. -/
theorem ev_trues {n : Nat} (F : Nat → Int → Option Bool) (G : Nat → Nat → Option Bool) (hG : ∀ i, i < n → Ev (fun k => G k i) true)
    (hstep : ∀ k (i : Nat), i < n → F (k + 1) (i : Int) = (G k i).bind fun t => if t = true then F k ((i + 1 : Nat) : Int) else some false)
    (hend : ∀ k, F (k + 1) (n : Int) = some true) : Ev (fun k => F k 0) true := by
  have main : ∀ d i, n - i = d → i ≤ n → Ev (fun k => F k (i : Int)) true := by
    intro d
    induction d with
    | zero =>
      intro i hd hi
      obtain rfl : i = n := by omega
      refine ev_succ ?_
      simp only [hend]
      exact Ev.now _
    | succ d ih =>
      intro i hd hi
      refine ev_succ ?_
      simp only [hstep _ i (show i < n by omega)]
      refine Ev.bind (hG i (by omega)) ?_
      simp only [if_true]
      exact ih (i + 1) (by omega) (by omega)
  exact main n 0 (by omega) (by omega)
theorem toNat_cast (i : Nat) : ((i : Int)).toNat = i := Int.toNat_natCast i
/-! #### names -/
/-- one byte of a name: a letter or an underscore -/
def letterB (c : Int) : Bool := decide (97 ≤ c ∧ c ≤ 122) || decide (65 ≤ c ∧ c ≤ 90) || decide (c = 95)
def digitB (c : Int) : Bool := decide (48 ≤ c ∧ c ≤ 57)
/-- what a good name is -/
def NameOk (s : ByteArray) : Prop := 1 ≤ s.size ∧ s.size ≤ 20 ∧ ∀ j, j < s.size → (letterB (bt s (j : Nat)) = true ∨ (j ≠ 0 ∧ digitB (bt s (j : Nat)) = true))
instance (s : ByteArray) : Decidable (NameOk s) := by unfold NameOk; infer_instance
def nameB (s : ByteArray) : Bool := decide (NameOk s)
theorem spec_digit (c : Int) : spec_l1Digit.f c = some (digitB c) := by
  unfold spec_l1Digit.f digitB
  by_cases h : c ≥ 48
  · rw [if_pos h]; congr 1; simp; omega
  · rw [if_neg h]; congr 1; simp; omega
theorem spec_letter (c : Int) : spec_l1Letter.f c = some (letterB c) := by
  unfold spec_l1Letter.f letterB
  repeat' split
  all_goals (congr 1; rw [Bool.eq_iff_iff]; simp; try omega)
theorem impl_digit (c : Int) : impl_isDigit.f c = some (digitB c) := by
  unfold impl_isDigit.f digitB
  by_cases h : c ≥ 48
  · rw [if_pos h]; congr 1; simp; omega
  · rw [if_neg h]; congr 1; simp; omega
theorem impl_letter (c : Int) : impl_isLetter.f c = some (letterB c && decide (c ≠ 95)) := by
  unfold impl_isLetter.f letterB
  repeat' split
  all_goals (congr 1; rw [Bool.eq_iff_iff]; simp; try omega)
theorem spec_name_loop (s : ByteArray) (hs : s.size ≤ 140737488351232) (h0 : digitB (bt s 0) = false) (d : Nat) : ∀ i : Nat, s.size - i = d → i ≤ s.size →
    ∃ b, Ev (fun k => spec_GoodName.l0 k s i) b ∧ (b = true ↔ ∀ j, i ≤ j → j < s.size → (letterB (bt s (j : Nat)) = true ∨ (j ≠ 0 ∧ digitB (bt s (j : Nat)) = true))) := by
  induction d with
  | zero =>
    intro i hd hi
    refine ⟨true, Ev.step (fun k => by simp only [spec_GoodName.l0]; rw [if_neg (by omega)]) (Ev.now true), ⟨fun _ j h1 h2 => by omega, fun _ => rfl⟩⟩
  | succ d ih =>
    intro i hd hi
    obtain ⟨b, hb, hiff⟩ := ih (i + 1) (by omega) (by omega)
    have hw : wrap64 ((i : Int) + 1) = ((i + 1 : Nat) : Int) := by rw [wrap_small (by omega) (by omega)]; omega
    by_cases hl : letterB (bt s (i : Nat)) = true
    · refine ⟨b, Ev.step (fun k => by simp only [spec_GoodName.l0]; rw [if_pos (by omega), if_pos (by omega), spec_letter, hl, hw]; simp only [Option.bind_some, if_true]) hb, hiff.trans ⟨fun h j h1 h2 => ?_, fun h j h1 h2 => h j (by omega) h2⟩⟩
      by_cases e : j = i
      · subst e; exact .inl hl
      · exact h j (by omega) h2
    · have hl' : letterB (bt s (i : Nat)) = false := by simpa using hl
      by_cases hg : digitB (bt s (i : Nat)) = true
      · have hi0 : i ≠ 0 := by
          rintro rfl
          rw [show ((0 : Nat) : Int) = 0 from rfl, h0] at hg
          cases hg
        refine ⟨b, Ev.step (fun k => by simp only [spec_GoodName.l0]; rw [if_pos (by omega), if_pos (by omega), spec_letter, hl', spec_digit, hg, hw]; simp only [Option.bind_some, if_true, Bool.false_eq_true, if_false]) hb, hiff.trans ⟨fun h j h1 h2 => ?_, fun h j h1 h2 => h j (by omega) h2⟩⟩
        by_cases e : j = i
        · subst e; exact .inr ⟨hi0, hg⟩
        · exact h j (by omega) h2
      · have hg' : digitB (bt s (i : Nat)) = false := by simpa using hg
        refine ⟨false, Ev.step (fun k => by simp only [spec_GoodName.l0]; rw [if_pos (by omega), if_pos (by omega), spec_letter, hl', spec_digit, hg']; simp only [Option.bind_some, Bool.false_eq_true, if_false]) (Ev.now false), ⟨fun h => (Bool.false_ne_true h).elim, fun h => ?_⟩⟩
        rcases h i (Nat.le_refl _) (by omega) with h | ⟨_, h⟩
        · exact absurd h hl
        · exact absurd h hg
theorem spec_name (s : ByteArray) (hs : s.size ≤ 140737488351232) : Ev (fun k => spec_GoodName.f k s) (nameB s) := by
  unfold spec_GoodName.f nameB
  by_cases h1 : (s.size : Int) < 1
  · have : decide (NameOk s) = false := decide_eq_false (by unfold NameOk; omega)
    simp only [if_pos h1, this]
    exact Ev.step (fun k => by simp only [spec_GoodName.j0, if_true]) (Ev.now false)
  · by_cases h2 : (s.size : Int) > 20
    · have : decide (NameOk s) = false := decide_eq_false (by unfold NameOk; omega)
      simp only [if_neg h1, if_pos h2, this]
      exact Ev.step (fun k => by simp only [spec_GoodName.j0, if_true]) (Ev.now false)
    · simp only [if_neg h1, if_neg h2, if_pos (show 0 < (s.size : Int) by omega), spec_digit, Option.bind_some]
      by_cases hd : digitB (bt s 0) = true
      · have : decide (NameOk s) = false := decide_eq_false (fun hn => by
          rcases hn.2.2 0 (by omega) with h | ⟨h, _⟩
          · rw [show ((0 : Nat) : Int) = 0 from rfl] at h
            revert hd h
            unfold digitB letterB
            simp
            omega
          · exact h rfl)
        simp only [hd, this]
        exact Ev.step (fun k => by simp only [spec_GoodName.j0, if_true]) (Ev.now false)
      · have hd' : digitB (bt s 0) = false := by simpa using hd
        obtain ⟨b, hb, hiff⟩ := spec_name_loop s hs hd' s.size 0 (by omega) (by omega)
        have : b = decide (NameOk s) := by
          rw [Bool.eq_iff_iff, hiff]
          simp only [decide_eq_true_eq]
          exact ⟨fun h => ⟨by omega, by omega, fun j hj => h j (Nat.zero_le _) hj⟩, fun h j _ hj => h.2.2 j hj⟩
        rw [← this]
        simp only [hd']
        exact Ev.step (fun k => by simp only [spec_GoodName.j0, Bool.false_eq_true, if_false]; rfl) hb
theorem impl_name_loop (s : ByteArray) (hs : s.size ≤ 140737488351232) (d : Nat) : ∀ i : Nat, s.size - i = d → i ≤ s.size →
    ∃ b, Ev (fun k => impl_GoodName.l0 k s s.size i) b ∧ (b = true ↔ (1 ≤ s.size ∧ s.size ≤ 20 ∧ ∀ j, i ≤ j → j < s.size → (letterB (bt s (j : Nat)) = true ∨ (j ≠ 0 ∧ digitB (bt s (j : Nat)) = true)))) := by
  induction d with
  | zero =>
    intro i hd hi
    refine ⟨decide (1 ≤ s.size ∧ s.size ≤ 20), Ev.step (fun k => ?_) (Ev.now _), ?_⟩
    · simp only [impl_GoodName.l0]; rw [if_neg (by omega)]
      unfold impl_inRange.f
      by_cases h : (1 : Int) ≤ s.size
      · rw [if_pos h]; simp only [Option.bind_some, Option.some.injEq, decide_eq_decide]; omega
      · rw [if_neg h, decide_eq_false (p := 1 ≤ s.size ∧ s.size ≤ 20) (by omega)]; rfl
    · simp only [decide_eq_true_eq]
      exact ⟨fun h => ⟨h.1, h.2, fun j h1 h2 => by omega⟩, fun h => ⟨h.1, h.2.1⟩⟩
  | succ d ih =>
    intro i hd hi
    obtain ⟨b, hb, hiff⟩ := ih (i + 1) (by omega) (by omega)
    have hw : wrap64 ((i : Int) + 1) = ((i + 1 : Nat) : Int) := by rw [wrap_small (by omega) (by omega)]; omega
    have yes (hok : letterB (bt s (i : Nat)) = true ∨ (i ≠ 0 ∧ digitB (bt s (i : Nat)) = true)) : (b = true ↔ (1 ≤ s.size ∧ s.size ≤ 20 ∧ ∀ j, i ≤ j → j < s.size → (letterB (bt s (j : Nat)) = true ∨ (j ≠ 0 ∧ digitB (bt s (j : Nat)) = true)))) := by
      refine hiff.trans ⟨fun h => ⟨h.1, h.2.1, fun j h1 h2 => ?_⟩, fun h => ⟨h.1, h.2.1, fun j h1 h2 => h.2.2 j (by omega) h2⟩⟩
      by_cases e : j = i
      · subst e; exact hok
      · exact h.2.2 j (by omega) h2
    have no (hok : ¬ (letterB (bt s (i : Nat)) = true ∨ (i ≠ 0 ∧ digitB (bt s (i : Nat)) = true))) : (false = true ↔ (1 ≤ s.size ∧ s.size ≤ 20 ∧ ∀ j, i ≤ j → j < s.size → (letterB (bt s (j : Nat)) = true ∨ (j ≠ 0 ∧ digitB (bt s (j : Nat)) = true)))) :=
      ⟨fun h => (Bool.false_ne_true h).elim, fun h => absurd (h.2.2 i (Nat.le_refl _) (by omega)) hok⟩
    have step (k : Nat) : impl_GoodName.l0 (k + 1) s s.size i = (impl_isLetter.f (bt s i)).bind fun t105 => (if t105 = true then (impl_GoodName.l0 k s s.size ((i + 1 : Nat) : Int)) else (if (bt s i) = 95 then (impl_GoodName.l0 k s s.size ((i + 1 : Nat) : Int)) else (if (i : Int) = 0 then (some false) else ((impl_isDigit.f (bt s i)).bind fun t106 => (if t106 = true then (impl_GoodName.l0 k s s.size ((i + 1 : Nat) : Int)) else (some false)))))) := by
      simp only [impl_GoodName.l0]; rw [if_pos (by omega), if_pos (by omega), if_pos (by omega), hw]
    by_cases hu : bt s (i : Nat) = 95
    · have hl : letterB (bt s (i : Nat)) = true := by unfold letterB; simp [hu]
      refine ⟨b, Ev.step (fun k => ?_) hb, yes (.inl hl)⟩
      rw [step, impl_letter]; simp [hu]
    · by_cases hl : letterB (bt s (i : Nat)) = true
      · refine ⟨b, Ev.step (fun k => ?_) hb, yes (.inl hl)⟩
        rw [step, impl_letter]; simp [hl, hu]
      · have hl' : letterB (bt s (i : Nat)) = false := by simpa using hl
        by_cases hi0 : i = 0
        · refine ⟨false, Ev.step (fun k => ?_) (Ev.now false), no (fun h => ?_)⟩
          · rw [step, impl_letter]; subst hi0; simp only [hl', Bool.false_and, Option.bind_some, Bool.false_eq_true, if_false, if_neg hu]; rfl
          · rcases h with h | ⟨h, _⟩
            · exact absurd h hl
            · exact h hi0
        · by_cases hg : digitB (bt s (i : Nat)) = true
          · refine ⟨b, Ev.step (fun k => ?_) hb, yes (.inr ⟨hi0, hg⟩)⟩
            rw [step, impl_letter, impl_digit]; simp only [hl', hg, Bool.false_and, Option.bind_some, Bool.false_eq_true, if_false, if_neg hu, if_true]; rw [if_neg (by omega)]
          · have hg' : digitB (bt s (i : Nat)) = false := by simpa using hg
            refine ⟨false, Ev.step (fun k => ?_) (Ev.now false), no (fun h => ?_)⟩
            · rw [step, impl_letter, impl_digit]; simp only [hl', hg', Bool.false_and, Option.bind_some, Bool.false_eq_true, if_false, if_neg hu]; rw [if_neg (by omega)]
            · rcases h with h | ⟨_, h⟩
              · exact absurd h hl
              · exact absurd h hg
theorem impl_name (s : ByteArray) (hs : s.size ≤ 140737488351232) : Ev (fun k => impl_GoodName.f k s) (nameB s) := by
  obtain ⟨b, hb, hiff⟩ := impl_name_loop s hs s.size 0 (by omega) (by omega)
  have : b = nameB s := by
    rw [Bool.eq_iff_iff, hiff]
    unfold nameB
    rw [decide_eq_true_eq]
    unfold NameOk
    simp only [Nat.zero_le, true_implies]
  rw [← this]
  exact hb
/-! #### spots: good ones; turns -/
def spotB (x y t : Int) : Bool := inB x (-1000000) 1000000 && (inB y (-1000000) 1000000 && inB t 0 3)
theorem spec_spot (x y t : Int) (f : Bool) : spec_l4Good.f x y t f = some (spotB x y t) := by
  unfold spec_l4Good.f spotB
  simp only [spec_in, Option.bind_some]
  cases inB x (-1000000) 1000000 <;> cases inB y (-1000000) 1000000 <;> simp
theorem impl_spot (x y t : Int) (f : Bool) : impl_isSpot.f x y t f = some (spotB x y t) := by
  unfold impl_isSpot.f spotB
  simp only [impl_in, Option.bind_some]
  cases inB x (-1000000) 1000000 <;> cases inB y (-1000000) 1000000 <;> simp
/-! #### turns of spots -/
/-- d quarter turns. -/
def rotD : Nat → Int → Int → Int × Int
  | 0, x, y => (x, y)
  | d + 1, x, y => rotD d (wrap64 (-y)) x
theorem spec_rot (t : Int) (ht : t ≤ 9223372036854775807) (a b : Int) (f : Bool) (d : Nat) : ∀ i x y : Int, 0 ≤ i → (t - i).toNat = d → Ev (fun k => spec_l4Apply.l0 k x y i a b t f) (rotD d x y) := by
  induction d with
  | zero =>
    intro i x y h0 hd
    exact Ev.step (fun k => by simp only [spec_l4Apply.l0]; rw [if_neg (by omega)]; rfl) (Ev.now _)
  | succ d ih =>
    intro i x y h0 hd
    exact Ev.step (fun k => by simp only [spec_l4Apply.l0]; rw [if_pos (by omega), wrap_small (i := i + 1) (by omega) (by omega)]) (ih (i + 1) _ _ (by omega) (by omega))
theorem impl_rot (t : Int) (ht : t ≤ 9223372036854775807) (d : Nat) : ∀ i x y : Int, 0 ≤ i → (t - i).toNat = d → Ev (fun k => impl_Spot_turned.l0 k x y t i) (rotD d x y) := by
  induction d with
  | zero =>
    intro i x y h0 hd
    exact Ev.step (fun k => by simp only [impl_Spot_turned.l0]; rw [if_neg (by omega)]; rfl) (Ev.now _)
  | succ d ih =>
    intro i x y h0 hd
    exact Ev.step (fun k => by simp only [impl_Spot_turned.l0]; rw [if_pos (by omega), wrap_small (i := i + 1) (by omega) (by omega)]) (ih (i + 1) _ _ (by omega) (by omega))
/-- What a spot makes of a place. -/
def turnV (t : Int) (f : Bool) (x y : Int) : Int × Int := rotD t.toNat (if f = true then wrap64 (-x) else x) y
theorem spec_turn (a b t : Int) (f : Bool) (x y : Int) (ht : t ≤ 9223372036854775807) : Ev (fun k => spec_l4Apply.f k a b t f x y) (turnV t f x y) := by
  unfold spec_l4Apply.f turnV
  cases f with
  | true => exact Ev.step (fun k => by simp only [if_true, spec_l4Apply.j0]) (spec_rot t ht a b true t.toNat 0 _ _ (by omega) (by omega))
  | false => exact Ev.step (fun k => by simp only [Bool.false_eq_true, if_false, spec_l4Apply.j0]) (spec_rot t ht a b false t.toNat 0 _ _ (by omega) (by omega))
theorem impl_turn (a b t : Int) (f : Bool) (x y : Int) (ht : t ≤ 9223372036854775807) : Ev (fun k => impl_Spot_turned.f k a b t f x y) (turnV t f x y) := by
  unfold impl_Spot_turned.f turnV
  cases f with
  | true => exact Ev.step (fun k => by simp only [if_true, impl_Spot_turned.j0]) (impl_rot t ht t.toNat 0 _ _ (by omega) (by omega))
  | false => exact Ev.step (fun k => by simp only [Bool.false_eq_true, if_false, impl_Spot_turned.j0]) (impl_rot t ht t.toNat 0 _ _ (by omega) (by omega))
/-! #### joins of spots -/
def joinT (t u : Int) (f : Bool) : Int := if f = true then Int.tmod (wrap64 (wrap64 (4 - u) + t)) 4 else Int.tmod (wrap64 (u + t)) 4
/-- The join of two spots, good or not. -/
def joinV (x y t : Int) (f : Bool) (a b u : Int) (g : Bool) : Int × Int × Int × Bool := (wrap64 ((turnV t f a b).1 + x), wrap64 ((turnV t f a b).2 + y), joinT t u f, (f != g))
def goodV (s : Int × Int × Int × Bool) : Int × Int × Int × Bool × Bool := if spotB s.1 s.2.1 s.2.2.1 = true then (s.1, s.2.1, s.2.2.1, s.2.2.2, true) else (0, 0, 0, false, false)
def joinG (x y t : Int) (f : Bool) (a b u : Int) (g : Bool) : Int × Int × Int × Bool × Bool := if (spotB x y t && spotB a b u) = true then goodV (joinV x y t f a b u g) else (0, 0, 0, false, false)
theorem spec_join (x y t : Int) (f : Bool) (a b u : Int) (g : Bool) (ht : t ≤ 9223372036854775807) : Ev (fun k => spec_l4Join.f k x y t f a b u g) (joinV x y t f a b u g) := by
  unfold spec_l4Join.f joinV joinT
  refine Ev.bind (spec_turn x y t f a b ht) ?_
  cases f with
  | true => simp only [if_true]; exact Ev.now _
  | false => simp only [Bool.false_eq_true, if_false]; exact Ev.now _
theorem impl_joins (x y t : Int) (f : Bool) (a b u : Int) (g : Bool) (ht : t ≤ 9223372036854775807) : Ev (fun k => impl_JoinSpots.f k x y t f a b u g) (joinG x y t f a b u g) := by
  unfold impl_JoinSpots.f joinG
  simp only [impl_spot, Option.bind_some]
  cases spotB x y t with
  | false => simp only [Bool.false_eq_true, if_false, Bool.false_and]; exact Ev.step (fun k => by simp only [impl_JoinSpots.j0, if_true]) (Ev.now _)
  | true =>
    simp only [if_true, Bool.true_and]
    cases spotB a b u with
    | false => simp only [Bool.false_eq_true, if_false, Bool.not_false]; exact Ev.step (fun k => by simp only [impl_JoinSpots.j0, if_true]) (Ev.now _)
    | true =>
      simp only [if_true, Bool.not_true]
      refine ev_succ ?_
      simp only [impl_JoinSpots.j0, Bool.false_eq_true, if_false]
      refine Ev.bind (impl_turn x y t f a b ht) ?_
      unfold goodV joinV joinT
      generalize turnV t f a b = s
      rw [Int.add_comm s.1 x, Int.add_comm s.2 y, Int.add_comm (wrap64 (4 - u)) t, Int.add_comm u t]
      cases f with
      | true => simp only [if_true, impl_spot, Option.bind_some]; split <;> exact Ev.now _
      | false => simp only [Bool.false_eq_true, if_false, impl_spot, Option.bind_some]; split <;> exact Ev.now _
/-! #### nodes: their copies, their equality, their size -/
def nodeOf (x : S72) : S73 := ⟨x.f0, x.f1, x.f2, x.f3, x.f4, x.f5⟩
theorem rd72 {l : List S72} {i : Nat} (h : i < l.length) : rd_T72 l (i : Int) = l[i] := by simp [rd_T72, h]
theorem rd73 {l : List S73} {i : Nat} (h : i < l.length) : rd_T73 l (i : Int) = l[i] := by simp [rd_T73, h]
theorem getN {l : List S73} {i : Nat} (h : i < l.length) : l.getD i z73 = l[i] := by simp [h]
theorem to_nodes (l : List S72) (hl : l.length ≤ 4398046511104) : Ev (fun k => laws_toNodeS.f k l) (l.map nodeOf) := by
  unfold laws_toNodeS.f
  simp only [if_pos (show (0 : Int) ≤ (l.length : Int) by omega), toNat_cast, if_pos (show l.length ≤ 5026338869833 by omega)]
  refine ev_map l z73 nodeOf (fun k x i => laws_toNodeS.l0 k l x i) (fun _ x => some (nodeOf x)) (fun _ _ => Ev.now _) ?_ ?_
  · intro k x i hi hx
    simp only [laws_toNodeS.l0, if_pos (show (i : Int) < (l.length : Int) by omega), if_pos (show (0 : Int) ≤ (i : Int) by omega), laws_toNode.f, Option.bind_some, if_pos (show (i : Int) < (x.length : Int) by omega), rd72 hi, toNat_cast, succ_cast hi (by omega)]
    rfl
  · intro k x
    simp only [laws_toNodeS.l0, if_neg (show ¬ (l.length : Int) < (l.length : Int) by omega)]
theorem eq_nodes (l : List S73) (hl : l.length ≤ 4398046511104) : Ev (fun k => laws_eqNodeS.f k l l) true := by
  unfold laws_eqNodeS.f
  simp only [if_true]
  refine ev_trues (n := l.length) (fun k i => laws_eqNodeS.l0 k l l i) (fun _ _ => some true) (fun _ _ => Ev.now _) ?_ ?_
  · intro k i hi
    simp only [laws_eqNodeS.l0, if_pos (show (i : Int) < (l.length : Int) by omega), if_pos (show (0 : Int) ≤ (i : Int) by omega), laws_eqNode.f, if_true, bne_self_eq_false, Bool.false_eq_true, if_false, Option.bind_some, succ_cast hi (by omega)]
  · intro k
    simp only [laws_eqNodeS.l0, if_neg (show ¬ (l.length : Int) < (l.length : Int) by omega)]
theorem sz_nodes_from (l : List S72) (hl : l.length ≤ 4398046511104) (d : Nat) : ∀ (i : Nat) (m : Int), l.length - i = d → i ≤ l.length → ∃ v, Ev (fun k => laws_szNodeS.l0 k l m (i : Int)) v := by
  induction d with
  | zero =>
    intro i m hd hi
    refine ⟨m, ev_succ ?_⟩
    simp only [laws_szNodeS.l0, if_neg (show ¬ (i : Int) < (l.length : Int) by omega)]
    exact Ev.now _
  | succ d ih =>
    intro i m hd hi
    have hlt : i < l.length := by omega
    obtain ⟨t, ht⟩ : ∃ t, laws_szNode.f l[i].f0 l[i].f1 l[i].f2 l[i].f3 l[i].f4 l[i].f5 m = some t := by
      unfold laws_szNode.f
      split
      · exact ⟨_, rfl⟩
      · exact ⟨_, rfl⟩
    by_cases c : t < 0
    · refine ⟨-1, ev_succ ?_⟩
      simp only [laws_szNodeS.l0, if_pos (show (i : Int) < (l.length : Int) by omega), if_pos (show (0 : Int) ≤ (i : Int) by omega), rd72 hlt, ht, Option.bind_some, if_pos c]
      exact Ev.now _
    · obtain ⟨v, hv⟩ := ih (i + 1) t (by omega) (by omega)
      refine ⟨v, ev_succ ?_⟩
      simp only [laws_szNodeS.l0, if_pos (show (i : Int) < (l.length : Int) by omega), if_pos (show (0 : Int) ≤ (i : Int) by omega), rd72 hlt, ht, Option.bind_some, if_neg c, succ_cast hlt (by omega)]
      exact hv
theorem sz_nodes (l : List S72) (hl : l.length ≤ 4398046511104) (m : Int) : ∃ v, Ev (fun k => laws_szNodeS.f k l m) v := by
  unfold laws_szNodeS.f
  by_cases c : wrap64 (m - (l.length : Int)) < 0
  · simp only [if_pos c]; exact ⟨_, Ev.now _⟩
  · simp only [if_neg c]
    exact sz_nodes_from l hl l.length 0 _ (by omega) (by omega)
/-! #### good scenes -/
def besideB (n x : S73) : Bool := decide (x.f1 = n.f1) && decide (x.f0.toList = n.f0.toList)
def nodeB (l : List S73) (i : Nat) : Bool := nameB (l.getD i z73).f0 && (inB (l.getD i z73).f1 (-1) (wrap64 ((i : Int) - 1)) && (spotB (l.getD i z73).f2 (l.getD i z73).f3 (l.getD i z73).f4 && !((l.take i).any (besideB (l.getD i z73)))))
def nodesFrom (l : List S73) : Nat → Nat → Bool
  | 0, _ => true
  | d + 1, i => nodeB l i && nodesFrom l d (i + 1)
def sceneB (l : List S73) : Bool := decide ((l.length : Int) ≤ 40) && nodesFrom l l.length 0
def Named (l : List S73) : Prop := ∀ x ∈ l, x.f0.size ≤ 140737488351232
theorem le_cast {i n : Nat} (h : i ≤ n) : (i : Int) ≤ (n : Int) := by omega
theorem ltc {i n : Nat} (h : i < n) : (i : Int) < (n : Int) := by omega
theorem nnc (i : Nat) : (0 : Int) ≤ (i : Int) := by omega
theorem no_lt (n : Nat) : ¬ (n : Int) < (n : Int) := by omega
theorem spec_beside (l : List S73) (hl : l.length ≤ 4398046511104) (i : Nat) (hi : i < l.length) (nm : S73) (V : Bool) (hV : Ev (fun k => spec_GoodScene.l0 k l l (l.length : Int) ((i + 1 : Nat) : Int)) V) (m : List S73) (d : Nat) : ∀ j : Nat, m.length - j = d → j ≤ m.length → m.length ≤ 4398046511104 → Ev (fun k => spec_GoodScene.l1 k l l (l.length : Int) (i : Int) m (m.length : Int) (j : Int) nm.f0 nm.f1 nm.f2 nm.f3 nm.f4 nm.f5) (!((m.drop j).any (besideB nm)) && V) := by
  induction d with
  | zero =>
    intro j hd hj hm
    obtain rfl : j = m.length := by omega
    refine ev_succ ?_
    simp only [spec_GoodScene.l1, if_neg (no_lt m.length), succ_cast hi (by omega), List.drop_length, List.any_nil, Bool.not_false, Bool.true_and]
    exact hV
  | succ d ih =>
    intro j hd hj hm
    have hlt : j < m.length := by omega
    have ihn := ih (j + 1) (by omega) (by omega) hm
    refine ev_succ ?_
    rw [drop_cons hlt, List.any_cons]
    unfold besideB at ihn ⊢
    simp only [spec_GoodScene.l1, if_pos (ltc hlt), if_pos (nnc j), rd73 hlt, succ_cast hlt (by omega)]
    by_cases c1 : m[j].f1 = nm.f1
    · simp only [if_pos c1, decide_eq_true c1, Bool.true_and]
      by_cases c2 : m[j].f0.toList = nm.f0.toList
      · simp only [if_pos c2, decide_eq_true c2, Bool.true_or, Bool.not_true, Bool.false_and]
        exact Ev.now _
      · simp only [if_neg c2, decide_eq_false c2, Bool.false_or]
        exact ihn
    · simp only [if_neg c1, decide_eq_false c1, Bool.false_and, Bool.false_or]
      exact ihn
theorem spec_scene_from (l : List S73) (hl : l.length ≤ 4398046511104) (hs : Named l) (d : Nat) : ∀ i : Nat, l.length - i = d → i ≤ l.length → Ev (fun k => spec_GoodScene.l0 k l l (l.length : Int) (i : Int)) (nodesFrom l d i) := by
  induction d with
  | zero =>
    intro i hd hi
    obtain rfl : i = l.length := by omega
    refine ev_succ ?_
    simp only [spec_GoodScene.l0, if_neg (no_lt l.length)]
    exact Ev.now _
  | succ d ih =>
    intro i hd hi
    have hlt : i < l.length := by omega
    have ihn := ih (i + 1) (by omega) (by omega)
    have ht : (l.take i).length = i := by rw [List.length_take]; omega
    refine ev_succ ?_
    unfold nodesFrom nodeB
    rw [getN hlt]
    simp only [spec_GoodScene.l0, if_pos (ltc hlt), if_pos (nnc i), rd73 hlt, spec_in, spec_l4Spot.f, spec_spot, Option.bind_some]
    refine Ev.bind (spec_name l[i].f0 (hs _ (List.getElem_mem hlt))) ?_
    have bad : Ev (fun k => spec_GoodScene.j1 k l (i : Int) l (l.length : Int) (i : Int) true l[i].f0 l[i].f1 l[i].f2 l[i].f3 l[i].f4 l[i].f5) false := ev_succ (by simp only [spec_GoodScene.j1, if_true]; exact Ev.now _)
    cases nameB l[i].f0 with
    | false => simp only [Bool.false_eq_true, if_false, Bool.false_and]; exact bad
    | true =>
      simp only [if_true, Bool.true_and]
      cases inB l[i].f1 (-1) (wrap64 ((i : Int) - 1)) with
      | false => simp only [Bool.false_eq_true, if_false, Bool.false_and]; exact bad
      | true =>
        simp only [if_true, Bool.true_and]
        cases spotB l[i].f2 l[i].f3 l[i].f4 with
        | false => simp only [Bool.not_false, Bool.false_and]; exact bad
        | true =>
          simp only [Bool.not_true, Bool.true_and]
          refine ev_succ ?_
          simp only [spec_GoodScene.j1, Bool.false_eq_true, if_false, if_pos (nnc i), if_pos (le_cast hi), toNat_cast, Option.bind_some]
          have := spec_beside l hl i hlt l[i] _ ihn (l.take i) (l.take i).length 0 (by omega) (by omega) (by omega)
          rw [List.drop_zero] at this
          exact this
theorem spec_scene (l : List S73) (hs : Named l) : Ev (fun k => spec_GoodScene.f k l) (sceneB l) := by
  unfold spec_GoodScene.f sceneB
  by_cases c : (l.length : Int) > 40
  · rw [decide_eq_false (show ¬ (l.length : Int) ≤ 40 by omega)]
    simp only [if_pos c, Bool.false_and]
    exact Ev.now _
  · rw [decide_eq_true (show (l.length : Int) ≤ 40 by omega)]
    simp only [if_neg c, Bool.true_and]
    exact spec_scene_from l (by omega) hs l.length 0 (by omega) (by omega)
theorem impl_scene_from (l : List S73) (hl : l.length ≤ 4398046511104) (hs : Named l) (d : Nat) : ∀ i : Nat, l.length - i = d → i ≤ l.length → Ev (fun k => impl_GoodScene.l0 k l l (l.length : Int) (i : Int)) (nodesFrom l d i && decide ((l.length : Int) ≤ 40)) := by
  induction d with
  | zero =>
    intro i hd hi
    obtain rfl : i = l.length := by omega
    refine ev_succ ?_
    unfold nodesFrom
    simp only [impl_GoodScene.l0, if_neg (no_lt l.length), Bool.true_and]
    exact Ev.now _
  | succ d ih =>
    intro i hd hi
    have hlt : i < l.length := by omega
    have ihn := ih (i + 1) (by omega) (by omega)
    refine ev_succ ?_
    unfold nodesFrom nodeB
    rw [getN hlt]
    simp only [impl_GoodScene.l0, if_pos (ltc hlt), if_pos (nnc i), rd73 hlt, impl_in, impl_Node_spot.f, impl_spot, Option.bind_some]
    refine Ev.bind (impl_name l[i].f0 (hs _ (List.getElem_mem hlt))) ?_
    have bad : Ev (fun k => impl_GoodScene.j1 k l (i : Int) l (l.length : Int) (i : Int) true l[i].f0 l[i].f1 l[i].f2 l[i].f3 l[i].f4 l[i].f5) false := ev_succ (by simp only [impl_GoodScene.j1, if_true]; exact Ev.now _)
    cases nameB l[i].f0 with
    | false => simp only [Bool.false_eq_true, if_false, Bool.false_and]; exact bad
    | true =>
      simp only [if_true, Bool.true_and]
      cases inB l[i].f1 (-1) (wrap64 ((i : Int) - 1)) with
      | false => simp only [Bool.false_eq_true, if_false, Bool.false_and]; exact bad
      | true =>
        simp only [if_true, Bool.true_and]
        cases spotB l[i].f2 l[i].f3 l[i].f4 with
        | false => simp only [Bool.not_false, Bool.false_and]; exact bad
        | true =>
          simp only [Bool.not_true, Bool.true_and]
          refine ev_succ ?_
          have ha : anyO (impl_Node_60.on l[i].f0 l[i].f1) (l.take i) = some ((l.take i).any (besideB l[i])) := anyO_some _ (fun x _ => rfl)
          simp only [impl_GoodScene.j1, impl_Node_60.f, Bool.false_eq_true, if_false, if_pos (nnc i), if_pos (le_cast hi), toNat_cast, ha, Option.bind_some]
          cases (l.take i).any (besideB l[i]) with
          | true => simp only [if_true, Bool.not_true, Bool.false_and]; exact Ev.now _
          | false => simp only [Bool.false_eq_true, if_false, Bool.not_false, Bool.true_and, succ_cast hlt (by omega)]; exact ihn
theorem impl_scene (l : List S73) (hl : l.length ≤ 4398046511104) (hs : Named l) : Ev (fun k => impl_GoodScene.f k l) (sceneB l) := by
  unfold impl_GoodScene.f sceneB
  rw [Bool.and_comm]
  exact impl_scene_from l hl hs l.length 0 (by omega) (by omega)
/-! #### what a good scene is -/
theorem nodes_at (l : List S73) (d : Nat) : ∀ i : Nat, nodesFrom l d i = true → ∀ j, i ≤ j → j < i + d → nodeB l j = true := by
  induction d with
  | zero => intro i _ j h1 h2; omega
  | succ d ih =>
    intro i h j h1 h2
    unfold nodesFrom at h
    rw [Bool.and_eq_true] at h
    by_cases e : j = i
    · subst e; exact h.1
    · exact ih (i + 1) h.2 j (by omega) (by omega)
theorem scene_facts {l : List S73} (h : sceneB l = true) : l.length ≤ 40 ∧ ∀ i (hi : i < l.length), l[i].f0.size ≤ 20 ∧ -1 ≤ l[i].f1 ∧ l[i].f1 ≤ (i : Int) - 1 ∧ spotB l[i].f2 l[i].f3 l[i].f4 = true := by
  unfold sceneB at h
  rw [Bool.and_eq_true] at h
  have h0 := of_decide_eq_true h.1
  have hlen : l.length ≤ 40 := by omega
  refine ⟨hlen, fun i hi => ?_⟩
  have hn := nodes_at l l.length 0 h.2 i (by omega) (by omega)
  unfold nodeB at hn
  rw [getN hi] at hn
  simp only [Bool.and_eq_true, inB_iff] at hn
  obtain ⟨n1, ⟨n2, n3⟩, n4, _⟩ := hn
  rw [wrap_small (by omega) (by omega)] at n3
  have hk : NameOk l[i].f0 := of_decide_eq_true n1
  exact ⟨hk.2.1, n2, n3, n4⟩
/-! #### marks in nodes -/
theorem strOf_size (x : Int) : (strOfNums [x]).size = 1 := rfl
theorem mark_text_from (n : Nat) : ∀ s : ByteArray, s.size + n ≤ 4611686018427387904 → ∃ t, Ev (fun k => laws_markText.l0 k (n : Int) s) t := by
  induction n using Nat.strongRecOn with
  | ind n ih =>
    intro s hs
    by_cases c : n = 0
    · subst c
      refine ⟨(⟨#[109]⟩ : ByteArray) ++ s, ev_succ ?_⟩
      simp only [laws_markText.l0, if_neg (show ¬ ((0 : Nat) : Int) > 0 by omega), if_pos (show 1 + s.size ≤ 9223372036854775807 by omega)]
      exact Ev.now _
    · have hd : n / 10 < n := Nat.div_lt_self (by omega) (by decide)
      have ew : wrap64 (Int.tdiv (n : Int) 10) = ((n / 10 : Nat) : Int) := by
        rw [tdiv_pos (by omega), wrap_small (by omega) (by omega)]; omega
      obtain ⟨t, ht⟩ := ih (n / 10) hd (strOfNums [(wrap64 (48 + (Int.tmod (n : Int) 10))) % 256] ++ s) (by rw [ByteArray.size_append, strOf_size]; omega)
      have c1 : (strOfNums [(wrap64 (48 + (Int.tmod (n : Int) 10))) % 256]).size + s.size ≤ 9223372036854775807 := by rw [strOf_size]; omega
      refine ⟨t, ev_succ ?_⟩
      simp only [laws_markText.l0, if_pos (show (n : Int) > 0 by omega), Option.bind_some, if_pos c1, ew]
      exact ht
theorem mark_text (m : Int) (h : 0 < m ∧ m ≤ 4611686018427387904) : ∃ t, Ev (fun k => laws_markText.f k m) t := by
  obtain ⟨n, rfl⟩ : ∃ n : Nat, m = (n : Int) := ⟨m.toNat, by omega⟩
  obtain ⟨t, ht⟩ := mark_text_from n ⟨#[]⟩ (by show 0 + n ≤ _; omega)
  refine ⟨t, ?_⟩
  unfold laws_markText.f
  simp only [if_neg (show ¬ (n : Int) ≤ 0 by omega)]
  exact ht
open Classical in
noncomputable def markName (m : Int) : ByteArray := if h : 0 < m ∧ m ≤ 4611686018427387904 then Classical.choose (mark_text m h) else ⟨#[]⟩
theorem mark_name {m : Int} (h0 : 0 < m) (h1 : m ≤ 4611686018427387904) : Ev (fun k => laws_markText.f k m) (markName m) := by
  unfold markName
  rw [dif_pos ⟨h0, h1⟩]
  exact Classical.choose_spec (mark_text m ⟨h0, h1⟩)
theorem rdsN {xs : List S73} {i : Nat} (h : i < xs.length) (v : S73) : rd_T73 (xs.set i v) (i : Int) = v := by
  rw [rd73 (by rw [List.length_set]; exact h), List.getElem_set_self]
noncomputable def nodeMark (m : Int) : S73 := ⟨markName m, m + 1, m + 1 + 1, m + 1 + 1 + 1, m + 1 + 1 + 1 + 1, Int.tmod (m + 1 + 1 + 1 + 1 + 1) 3 == 0⟩
def markedN (ys : List S73) (n : Nat) : Prop := ys.length = n ∧ ∀ j (h : j < ys.length), ys[j] = nodeMark (1 + 6 * (j : Int))
theorem markN_step (xs : List S73) (m : Int) (i : Nat) (hlt : i < xs.length) (hi : i ≤ 4398046511104) (h0 : 0 < m) (h1 : m ≤ 461168601842738790) (V : Int × List S73) (hV : Ev (fun k => laws_markNodeS.l0 k (xs.set i (nodeMark m)) (m + 1 + 1 + 1 + 1 + 1 + 1) ((i + 1 : Nat) : Int)) V) : Ev (fun k => laws_markNodeS.l0 k xs m (i : Int)) V := by
  have e0 := mark_name h0 (show m ≤ 4611686018427387904 by omega)
  have e1 : wrap64 (m + 1) = m + 1 := wrap_small (by omega) (by omega)
  have e2 : wrap64 (m + 1 + 1) = m + 1 + 1 := wrap_small (by omega) (by omega)
  have e3 : wrap64 (m + 1 + 1 + 1) = m + 1 + 1 + 1 := wrap_small (by omega) (by omega)
  have e4 : wrap64 (m + 1 + 1 + 1 + 1) = m + 1 + 1 + 1 + 1 := wrap_small (by omega) (by omega)
  have e5 : wrap64 (m + 1 + 1 + 1 + 1 + 1) = m + 1 + 1 + 1 + 1 + 1 := wrap_small (by omega) (by omega)
  have e6 : wrap64 (m + 1 + 1 + 1 + 1 + 1 + 1) = m + 1 + 1 + 1 + 1 + 1 + 1 := wrap_small (by omega) (by omega)
  have es : wrap64 ((i : Int) + 1) = ((i + 1 : Nat) : Int) := by rw [wrap_small (by omega) (by omega)]; omega
  refine ev_succ ?_
  simp only [laws_markNodeS.l0, if_pos (ltc hlt), if_pos (nnc i)]
  refine Ev.bind e0 ?_
  simp only [Option.bind_some, toNat_cast, rd73 hlt, List.set_set, rdsN hlt, e1, e2, e3, e4, e5, e6, es]
  exact hV
theorem mark_nodes_from (n : Nat) (hn : n ≤ 4398046511104) (d : Nat) : ∀ (i : Nat) (xs : List S73) (m : Int), n - i = d → i ≤ n → xs.length = n → m = 1 + 6 * (i : Int) → (∀ j (h : j < xs.length), j < i → xs[j] = nodeMark (1 + 6 * (j : Int))) → ∃ ys, markedN ys n ∧ Ev (fun k => laws_markNodeS.l0 k xs m (i : Int)) (1 + 6 * (n : Int), ys) := by
  induction d with
  | zero =>
    intro i xs m hd hi hx hm hj
    have : i = n := by omega
    refine ⟨xs, ⟨hx, fun j h => hj j h (by omega)⟩, ev_succ ?_⟩
    simp only [laws_markNodeS.l0, if_neg (show ¬ (i : Int) < (xs.length : Int) by omega)]
    rw [hm, this]
    exact Ev.now _
  | succ d ih =>
    intro i xs m hd hi hx hm hj
    have hlt : i < xs.length := by omega
    obtain ⟨ys, hm2, hy⟩ := ih (i + 1) (xs.set i (nodeMark m)) (m + 1 + 1 + 1 + 1 + 1 + 1) (by omega) (by omega) (by simp only [List.length_set]; exact hx) (by omega) (by
      intro j h h2
      by_cases e : j = i
      · subst e
        rw [List.getElem_set_self, hm]
      · rw [List.getElem_set_ne (fun h => e h.symm)]
        exact hj j (by simpa using h) (by omega))
    exact ⟨ys, hm2, markN_step xs m i hlt (by omega) (by omega) (by omega) _ hy⟩
theorem mark_nodes (l : List S73) (hl : l.length ≤ 4398046511104) : ∃ ys, markedN ys l.length ∧ Ev (fun k => laws_markNodeS.f k l 1) (1 + 6 * (l.length : Int), ys) :=
  mark_nodes_from l.length hl l.length 0 l 1 (by omega) (by omega) rfl (by omega) (fun j h h2 => absurd h2 (Nat.not_lt_zero _))
theorem heldN_step (ys : List S73) (m : Int) (i : Nat) (hlt : i < ys.length) (hi : i ≤ 4398046511104) (h0 : 0 < m) (h1 : m ≤ 461168601842738790) (g : ys[i] = nodeMark m) (V : Int) (hV : Ev (fun k => laws_heldNodeS.l0 k ys (m + 1 + 1 + 1 + 1 + 1 + 1) ((i + 1 : Nat) : Int)) V) : Ev (fun k => laws_heldNodeS.l0 k ys m (i : Int)) V := by
  have e0 := mark_name h0 (show m ≤ 4611686018427387904 by omega)
  have e1 : wrap64 (m + 1) = m + 1 := wrap_small (by omega) (by omega)
  have e2 : wrap64 (m + 1 + 1) = m + 1 + 1 := wrap_small (by omega) (by omega)
  have e3 : wrap64 (m + 1 + 1 + 1) = m + 1 + 1 + 1 := wrap_small (by omega) (by omega)
  have e4 : wrap64 (m + 1 + 1 + 1 + 1) = m + 1 + 1 + 1 + 1 := wrap_small (by omega) (by omega)
  have e5 : wrap64 (m + 1 + 1 + 1 + 1 + 1) = m + 1 + 1 + 1 + 1 + 1 := wrap_small (by omega) (by omega)
  have e6 : wrap64 (m + 1 + 1 + 1 + 1 + 1 + 1) = m + 1 + 1 + 1 + 1 + 1 + 1 := wrap_small (by omega) (by omega)
  have es : wrap64 ((i : Int) + 1) = ((i + 1 : Nat) : Int) := by rw [wrap_small (by omega) (by omega)]; omega
  refine ev_succ ?_
  simp only [laws_heldNodeS.l0, if_pos (ltc hlt), if_pos (nnc i)]
  refine Ev.bind e0 ?_
  simp only [rd73 hlt, g, nodeMark, e1, e2, e3, e4, e5, e6, es, if_true, bne_self_eq_false, Bool.false_eq_true, if_false]
  exact hV
theorem held_nodes_from (ys : List S73) (n : Nat) (hy : markedN ys n) (hn : n ≤ 4398046511104) (d : Nat) : ∀ (i : Nat) (m : Int), n - i = d → i ≤ n → m = 1 + 6 * (i : Int) → Ev (fun k => laws_heldNodeS.l0 k ys m (i : Int)) (1 + 6 * (n : Int)) := by
  obtain ⟨h1, h2⟩ := hy
  induction d with
  | zero =>
    intro i m hd hi hm
    have : i = n := by omega
    refine ev_succ ?_
    simp only [laws_heldNodeS.l0, if_neg (show ¬ (i : Int) < (ys.length : Int) by omega)]
    rw [hm, this]
    exact Ev.now _
  | succ d ih =>
    intro i m hd hi hm
    have hlt : i < ys.length := by omega
    exact heldN_step ys m i hlt (by omega) (by omega) (by omega) (by rw [h2 i hlt, hm]) _ (ih (i + 1) _ (by omega) (by omega) (by omega))
theorem held_nodes (ys : List S73) (n : Nat) (hy : markedN ys n) (hn : n ≤ 4398046511104) : Ev (fun k => laws_heldNodeS.f k ys 1) (1 + 6 * (n : Int)) := held_nodes_from ys n hy hn n 0 1 (by omega) (by omega) (by omega)
/-! #### where a node stands -/
def fiveOf (s : Int × Int × Int × Bool) (ok : Bool) : Int × Int × Int × Bool × Bool := (s.1, s.2.1, s.2.2.1, s.2.2.2, ok)
def shutOf (s : Int × Int × Int × Bool) (ok : Bool) : Int × Int × Int × Bool × Bool := if ok = true then fiveOf s true else (0, 0, 0, false, false)
theorem spotB_bd {x y t : Int} (h : spotB x y t = true) : -1000000 ≤ x ∧ x ≤ 1000000 ∧ -1000000 ≤ y ∧ y ≤ 1000000 ∧ 0 ≤ t ∧ t ≤ 3 := by
  unfold spotB at h
  simp only [Bool.and_eq_true, inB_iff] at h
  omega
theorem join_id {x y t : Int} (f : Bool) (h : spotB x y t = true) : joinV 0 0 0 false x y t f = (x, y, t, f) := by
  obtain ⟨x0, x1, y0, y1, t0, t1⟩ := spotB_bd h
  unfold joinV joinT turnV
  have e : Int.tmod (wrap64 (t + 0)) 4 = t := by
    rw [Int.add_zero, wrap_small (by omega) (by omega), tmod_pos t0]; omega
  simp only [Bool.false_eq_true, if_false, show ((0 : Int)).toNat = 0 from rfl, rotD, Int.add_zero] at e ⊢
  rw [wrap_small (i := x) (by omega) (by omega), wrap_small (i := y) (by omega) (by omega), e, Bool.false_bne]
theorem where_both {l : List S73} (h : sceneB l = true) (i : Nat) : i < l.length → ∃ (s : Int × Int × Int × Bool) (ok : Bool), Ev (fun k => spec_l4Where.f k l (i : Int)) (fiveOf s ok) ∧ Ev (fun k => impl_spotOf.f k l (i : Int)) (shutOf s ok) ∧ (ok = true → spotB s.1 s.2.1 s.2.2.1 = true) := by
  obtain ⟨hl, hf⟩ := scene_facts h
  induction i using Nat.strongRecOn with
  | ind i ih =>
    intro hi
    obtain ⟨_, hu0, hu1, hsp⟩ := hf i hi
    have bd := spotB_bd hsp
    have n0 : ¬ (i : Int) < 0 := by omega
    by_cases c : l[i].f1 < 0
    · refine ⟨(l[i].f2, l[i].f3, l[i].f4, l[i].f5), true, ev_succ ?_, ev_succ ?_, fun _ => hsp⟩
      · simp only [spec_l4Where.f, if_neg n0, if_pos (nnc i), if_pos (ltc hi), rd73 hi]
        have e0 : Ev (fun k => spec_l4Where.f k l l[i].f1) (0, 0, 0, false, true) := by
          refine ev_succ ?_
          simp only [spec_l4Where.f, if_pos c]
          exact Ev.now _
        refine Ev.bind e0 ?_
        simp only [if_true, spec_l4Spot.f, Option.bind_some]
        have hj := spec_join 0 0 0 false l[i].f2 l[i].f3 l[i].f4 l[i].f5 (by omega)
        rw [join_id _ hsp] at hj
        refine Ev.bind hj ?_
        simp only [spec_spot, hsp, Option.bind_some, fiveOf]
        exact Ev.now _
      · simp only [impl_spotOf.f, if_pos (nnc i), if_pos (ltc hi), rd73 hi, if_pos c, impl_Node_spot.f, Option.bind_some, shutOf, fiveOf, if_true]
        exact Ev.now _
    · obtain ⟨u, hu⟩ : ∃ u : Nat, l[i].f1 = (u : Int) := ⟨l[i].f1.toNat, by omega⟩
      obtain ⟨s, ok, e1, e2, hg⟩ := ih u (by omega) (by omega)
      cases ok with
      | false =>
        refine ⟨(0, 0, 0, false), false, ev_succ ?_, ev_succ ?_, fun hh => by cases hh⟩
        · simp only [spec_l4Where.f, if_neg n0, if_pos (nnc i), if_pos (ltc hi), rd73 hi, hu]
          refine Ev.bind e1 ?_
          simp only [fiveOf, Bool.false_eq_true, if_false]
          exact Ev.now _
        · simp only [impl_spotOf.f, if_pos (nnc i), if_pos (ltc hi), rd73 hi, if_neg c, hu]
          refine Ev.bind e2 ?_
          simp only [shutOf, Bool.false_eq_true, if_false]
          exact Ev.now _
      | true =>
        have hs := hg rfl
        have bs := spotB_bd hs
        refine ⟨joinV s.1 s.2.1 s.2.2.1 s.2.2.2 l[i].f2 l[i].f3 l[i].f4 l[i].f5, spotB (joinV s.1 s.2.1 s.2.2.1 s.2.2.2 l[i].f2 l[i].f3 l[i].f4 l[i].f5).1 (joinV s.1 s.2.1 s.2.2.1 s.2.2.2 l[i].f2 l[i].f3 l[i].f4 l[i].f5).2.1 (joinV s.1 s.2.1 s.2.2.1 s.2.2.2 l[i].f2 l[i].f3 l[i].f4 l[i].f5).2.2.1, ev_succ ?_, ev_succ ?_, fun hh => hh⟩
        · simp only [spec_l4Where.f, if_neg n0, if_pos (nnc i), if_pos (ltc hi), rd73 hi, hu]
          refine Ev.bind e1 ?_
          simp only [fiveOf, if_true, spec_l4Spot.f, Option.bind_some]
          refine Ev.bind (spec_join _ _ _ _ _ _ _ _ (by omega)) ?_
          simp only [spec_spot, Option.bind_some]
          exact Ev.now _
        · simp only [impl_spotOf.f, if_pos (nnc i), if_pos (ltc hi), rd73 hi, if_neg c, hu]
          refine Ev.bind e2 ?_
          simp only [shutOf, fiveOf, if_true, impl_Node_spot.f, Option.bind_some]
          have hj := impl_joins s.1 s.2.1 s.2.2.1 s.2.2.2 l[i].f2 l[i].f3 l[i].f4 l[i].f5 (by omega)
          unfold joinG goodV at hj
          rw [hs, hsp] at hj
          simp only [Bool.and_self, if_true] at hj
          refine Ev.bind hj ?_
          generalize joinV s.1 s.2.1 s.2.2.1 s.2.2.2 l[i].f2 l[i].f3 l[i].f4 l[i].f5 = j
          cases spotB j.1 j.2.1 j.2.2.1 with
          | true => simp only [if_true]; exact Ev.now _
          | false => simp only [Bool.false_eq_true, if_false]; exact Ev.now _
/-! #### a node hung on another -/
theorem rotD_bd (d : Nat) : ∀ x y : Int, -1000000 ≤ x ∧ x ≤ 1000000 ∧ -1000000 ≤ y ∧ y ≤ 1000000 → -1000000 ≤ (rotD d x y).1 ∧ (rotD d x y).1 ≤ 1000000 ∧ -1000000 ≤ (rotD d x y).2 ∧ (rotD d x y).2 ≤ 1000000 := by
  induction d with
  | zero => intro x y h; exact h
  | succ d ih =>
    intro x y h
    unfold rotD
    rw [wrap_small (i := -y) (by omega) (by omega)]
    exact ih (-y) x (by omega)
def backT (t : Int) (f : Bool) : Int := if f = true then t else Int.tmod (wrap64 (4 - t)) 4
def backV (x y t : Int) (f : Bool) : Int × Int × Int × Bool := ((turnV (backT t f) f (wrap64 (-x)) (wrap64 (-y))).1, (turnV (backT t f) f (wrap64 (-x)) (wrap64 (-y))).2, backT t f, f)
theorem backT_bd {t : Int} (f : Bool) (h0 : 0 ≤ t) (h1 : t ≤ 3) : 0 ≤ backT t f ∧ backT t f ≤ 3 := by
  unfold backT
  split
  · omega
  · rw [wrap_small (by omega) (by omega), tmod_pos (by omega)]; omega
theorem back_good {x y t : Int} (f : Bool) (h : spotB x y t = true) : spotB (backV x y t f).1 (backV x y t f).2.1 (backV x y t f).2.2.1 = true := by
  obtain ⟨x0, x1, y0, y1, t0, t1⟩ := spotB_bd h
  have hb := backT_bd f t0 t1
  unfold backV turnV spotB
  rw [wrap_small (i := -x) (by omega) (by omega), wrap_small (i := -y) (by omega) (by omega)]
  have hx : -1000000 ≤ (if f = true then wrap64 (-(-x)) else -x) ∧ (if f = true then wrap64 (-(-x)) else -x) ≤ 1000000 := by
    split
    · rw [wrap_small (by omega) (by omega)]; omega
    · omega
  have hr := rotD_bd (backT t f).toNat (if f = true then wrap64 (-(-x)) else -x) (-y) (by omega)
  simp only [Bool.and_eq_true, inB_iff]
  omega
theorem spec_back (x y t : Int) (f : Bool) (h : spotB x y t = true) : Ev (fun k => spec_l4Back.f k x y t f) (backV x y t f) := by
  obtain ⟨x0, x1, y0, y1, t0, t1⟩ := spotB_bd h
  have hb := backT_bd f t0 t1
  unfold spec_l4Back.f backV
  unfold backT at hb ⊢
  cases f with
  | true =>
    simp only [if_true] at hb ⊢
    exact Ev.bind (spec_turn 0 0 _ true _ _ (by omega)) (Ev.now _)
  | false =>
    simp only [Bool.false_eq_true, if_false] at hb ⊢
    exact Ev.bind (spec_turn 0 0 _ false _ _ (by omega)) (Ev.now _)
theorem impl_back (x y t : Int) (f : Bool) (h : spotB x y t = true) : Ev (fun k => impl_BackSpot.f k x y t f) (fiveOf (backV x y t f) true) := by
  obtain ⟨x0, x1, y0, y1, t0, t1⟩ := spotB_bd h
  have hb := backT_bd f t0 t1
  unfold impl_BackSpot.f backV fiveOf
  simp only [impl_spot, h, Option.bind_some, if_true]
  unfold backT at hb ⊢
  cases f with
  | true =>
    simp only [if_true] at hb ⊢
    exact Ev.bind (impl_turn 0 0 _ true _ _ (by omega)) (Ev.now _)
  | false =>
    simp only [Bool.false_eq_true, if_false] at hb ⊢
    exact Ev.bind (impl_turn 0 0 _ false _ _ (by omega)) (Ev.now _)
theorem back_zero : backV 0 0 0 false = (0, 0, 0, false) := by
  have h4 : wrap64 (4 - 0) = 4 := by rw [wrap_small (by omega) (by omega)]; rfl
  have h0 : wrap64 (-(0 : Int)) = 0 := by rw [wrap_small (by omega) (by omega)]; rfl
  have ht : backT 0 false = 0 := by
    unfold backT
    rw [if_neg (by decide), h4]
    rfl
  unfold backV turnV
  rw [ht, h0]
  rfl
theorem spot_zero : spotB 0 0 0 = true := by unfold spotB; simp only [Bool.and_eq_true, inB_iff]; omega
def hungN (x : S73) (up : Int) (s : Int × Int × Int × Bool) : S73 := ⟨x.f0, up, s.1, s.2.1, s.2.2.1, s.2.2.2⟩
def outV (l : List S73) (i : Nat) (n : S73) : List S73 × Bool := if sceneB (l.set i n) = true then (l.set i n, true) else ([], false)
theorem named_set {l : List S73} (hs : Named l) (i : Nat) (hi : i < l.length) (up : Int) (s : Int × Int × Int × Bool) : Named (l.set i (hungN l[i] up s)) := by
  intro x hx
  rcases List.mem_or_eq_of_mem_set hx with h | h
  · exact hs x h
  · rw [h]
    show l[i].f0.size ≤ _
    exact hs l[i] (List.getElem_mem hi)
theorem out_bad {l : List S73} {i : Nat} (hi : i < l.length) {up : Int} {s : Int × Int × Int × Bool} (h : spotB s.1 s.2.1 s.2.2.1 = false) : outV l i (hungN l[i] up s) = ([], false) := by
  unfold outV
  cases hc : sceneB (l.set i (hungN l[i] up s)) with
  | false => rfl
  | true =>
    have := ((scene_facts hc).2 i (by rw [List.length_set]; exact hi)).2.2.2
    rw [List.getElem_set_self] at this
    have h2 : spotB s.1 s.2.1 s.2.2.1 = true := this
    rw [h] at h2; cases h2
theorem spec_hang_out {l : List S73} (hl : l.length ≤ 40) (hs : Named l) (i : Nat) (hi : i < l.length) (up : Int) (p s : Int × Int × Int × Bool) (e1 : Ev (fun k => spec_l4Where.f k l up) (fiveOf p true)) (hp : spotB p.1 p.2.1 p.2.2.1 = true) :
    Ev (fun k => spec_Hang.j0 k l (i : Int) up false s.1 s.2.1 s.2.2.1 s.2.2.2) (outV l i (hungN l[i] up (joinV (backV p.1 p.2.1 p.2.2.1 p.2.2.2).1 (backV p.1 p.2.1 p.2.2.1 p.2.2.2).2.1 (backV p.1 p.2.1 p.2.2.1 p.2.2.2).2.2.1 (backV p.1 p.2.1 p.2.2.1 p.2.2.2).2.2.2 s.1 s.2.1 s.2.2.1 s.2.2.2))) := by
  have hb := spotB_bd (back_good p.2.2.2 hp)
  refine ev_succ ?_
  simp only [spec_Hang.j0, Bool.false_eq_true, if_false]
  refine Ev.bind e1 ?_
  simp only [fiveOf, if_true]
  refine Ev.bind (spec_back _ _ _ _ hp) ?_
  refine Ev.bind (spec_join _ _ _ _ _ _ _ _ (by omega)) ?_
  have c1 : ([] : List S73).length + l.length < 2513169434916 := by simp only [List.length_nil]; omega
  simp only [Option.bind_some, List.nil_append, if_pos c1, if_pos (nnc i), if_pos (ltc hi), toNat_cast, rd73 hi]
  generalize joinV (backV p.1 p.2.1 p.2.2.1 p.2.2.2).1 (backV p.1 p.2.1 p.2.2.1 p.2.2.2).2.1 (backV p.1 p.2.1 p.2.2.1 p.2.2.2).2.2.1 (backV p.1 p.2.1 p.2.2.1 p.2.2.2).2.2.2 s.1 s.2.1 s.2.2.1 s.2.2.2 = J
  have hn : (⟨l[i].f0, up, J.1, J.2.1, J.2.2.1, J.2.2.2⟩ : S73) = hungN l[i] up J := rfl
  rw [hn]
  unfold outV
  refine Ev.bind (spec_scene _ (named_set hs i hi up J)) ?_
  cases sceneB (l.set i (hungN l[i] up J)) with
  | true => simp only [if_true]; exact Ev.now _
  | false => simp only [Bool.false_eq_true, if_false]; exact Ev.now _
theorem impl_hang_bad {l : List S73} (hl : l.length ≤ 40) (i : Nat) (hi : i < l.length) (up : Int) (s : Int × Int × Int × Bool) : Ev (fun k => impl_Hang.j2 k l (i : Int) up false s.1 s.2.1 s.2.2.1 s.2.2.2) ([], false) := by
  have c1 : l.length < 2513169434916 := by omega
  refine ev_succ ?_
  simp only [impl_Hang.j2, impl_Node_71.f, if_pos c1, Option.bind_some, if_pos (nnc i), if_pos (ltc hi), Bool.false_eq_true, if_false]
  exact Ev.now _
theorem impl_hang_out {l : List S73} (hl : l.length ≤ 40) (hs : Named l) (i : Nat) (hi : i < l.length) (up : Int) (s : Int × Int × Int × Bool) : Ev (fun k => impl_Hang.j2 k l (i : Int) up true s.1 s.2.1 s.2.2.1 s.2.2.2) (outV l i (hungN l[i] up s)) := by
  have c1 : l.length < 2513169434916 := by omega
  refine ev_succ ?_
  simp only [impl_Hang.j2, impl_Node_71.f, if_pos c1, Option.bind_some, if_pos (nnc i), if_pos (ltc hi), if_true, toNat_cast, rd73 hi]
  have hn : (⟨l[i].f0, up, s.1, s.2.1, s.2.2.1, s.2.2.2⟩ : S73) = hungN l[i] up s := rfl
  simp only [hn]
  unfold outV
  refine Ev.bind (impl_scene _ (by rw [List.length_set]; omega) (named_set hs i hi up s)) ?_
  cases sceneB (l.set i (hungN l[i] up s)) with
  | true => simp only [if_true]; exact Ev.now _
  | false => simp only [Bool.false_eq_true, if_false]; exact Ev.now _
theorem outV_le (l : List S73) (i : Nat) (n : S73) : (outV l i n).1.length ≤ l.length := by
  unfold outV
  split
  · show (l.set i n).length ≤ _
    rw [List.length_set]; exact Nat.le_refl _
  · exact Nat.zero_le _
theorem hang_both (l : List S73) (hl0 : l.length ≤ 4398046511104) (hs : Named l) (a up : Int) : ∃ v : List S73 × Bool, v.1.length ≤ 4398046511104 ∧ Ev (fun k => spec_Hang.f k l a up) v ∧ Ev (fun k => impl_Hang.f k l a up) v := by
  have e1 := spec_scene l hs
  have e2 := impl_scene l hl0 hs
  cases h : sceneB l with
  | false =>
    rw [h] at e1 e2
    refine ⟨([], false), Nat.zero_le _, ?_, ?_⟩
    · unfold spec_Hang.f spec_SpotOf.f
      refine Ev.bind (Ev.bind e1 (r := (0, 0, 0, false, false)) ?_) ?_
      · simp only [Bool.false_eq_true, if_false]
        exact ev_succ (by simp only [spec_SpotOf.j0, if_true]; exact Ev.now _)
      · simp only [Bool.false_eq_true, if_false]
        exact ev_succ (by simp only [spec_Hang.j0, if_true]; exact Ev.now _)
    · unfold impl_Hang.f impl_isNode.f
      refine Ev.bind (Ev.bind e2 (r := false) ?_) ?_
      · simp only [Bool.false_eq_true, if_false]; exact Ev.now _
      · simp only [Bool.false_eq_true, if_false]
        exact ev_succ (by simp only [impl_Hang.j0, if_true]; exact Ev.now _)
  | true =>
    rw [h] at e1 e2
    obtain ⟨hl, hf⟩ := scene_facts h
    cases hb : inB a 0 (wrap64 ((l.length : Int) - 1)) with
    | false =>
      refine ⟨([], false), Nat.zero_le _, ?_, ?_⟩
      · unfold spec_Hang.f spec_SpotOf.f
        refine Ev.bind (Ev.bind e1 (r := (0, 0, 0, false, false)) ?_) ?_
        · simp only [if_true, spec_in, hb, Option.bind_some, Bool.not_false]
          exact ev_succ (by simp only [spec_SpotOf.j0, if_true]; exact Ev.now _)
        · simp only [Bool.false_eq_true, if_false]
          exact ev_succ (by simp only [spec_Hang.j0, if_true]; exact Ev.now _)
      · unfold impl_Hang.f impl_isNode.f
        refine Ev.bind (Ev.bind e2 (r := false) ?_) ?_
        · simp only [if_true, impl_in, hb, Option.bind_some]; exact Ev.now _
        · simp only [Bool.false_eq_true, if_false]
          exact ev_succ (by simp only [impl_Hang.j0, if_true]; exact Ev.now _)
    | true =>
      have hq := inB_iff.1 hb
      rw [wrap_small (by omega) (by omega)] at hq
      obtain ⟨i, rfl⟩ : ∃ i : Nat, a = (i : Int) := ⟨a.toNat, by omega⟩
      have hi : i < l.length := by omega
      obtain ⟨s, ok, p1, p2, pg⟩ := where_both h i hi
      have es : Ev (fun k => spec_SpotOf.f k l (i : Int)) (shutOf s ok) := by
        unfold spec_SpotOf.f
        refine Ev.bind e1 ?_
        simp only [if_true, spec_in, hb, Option.bind_some, Bool.not_true]
        refine ev_succ ?_
        simp only [spec_SpotOf.j0, Bool.false_eq_true, if_false]
        refine Ev.bind p1 ?_
        unfold shutOf
        cases ok with
        | true => simp only [fiveOf, if_true]; exact Ev.now _
        | false => simp only [fiveOf, Bool.false_eq_true, if_false]; exact Ev.now _
      have ei : Ev (fun k => impl_isNode.f k l (i : Int)) true := by
        unfold impl_isNode.f
        refine Ev.bind e2 ?_
        simp only [if_true, impl_in, hb, Option.bind_some]; exact Ev.now _
      have wi : wrap64 ((i : Int) - 1) = (i : Int) - 1 := wrap_small (by omega) (by omega)
      cases hu : inB up (-1) ((i : Int) - 1) with
      | false =>
        refine ⟨([], false), Nat.zero_le _, ?_, ?_⟩
        · unfold spec_Hang.f
          refine Ev.bind es ?_
          unfold shutOf
          cases ok with
          | true =>
            simp only [fiveOf, if_true, spec_in, wi, hu, Option.bind_some, Bool.not_false]
            exact ev_succ (by simp only [spec_Hang.j0, if_true]; exact Ev.now _)
          | false =>
            simp only [Bool.false_eq_true, if_false]
            exact ev_succ (by simp only [spec_Hang.j0, if_true]; exact Ev.now _)
        · unfold impl_Hang.f
          refine Ev.bind ei ?_
          simp only [if_true, impl_in, wi, hu, Option.bind_some, Bool.not_false]
          exact ev_succ (by simp only [impl_Hang.j0, if_true]; exact Ev.now _)
      | true =>
        have hq2 := inB_iff.1 hu
        cases ok with
        | false =>
          refine ⟨([], false), Nat.zero_le _, ?_, ?_⟩
          · unfold spec_Hang.f
            refine Ev.bind es ?_
            simp only [shutOf, Bool.false_eq_true, if_false]
            exact ev_succ (by simp only [spec_Hang.j0, if_true]; exact Ev.now _)
          · unfold impl_Hang.f
            refine Ev.bind ei ?_
            simp only [if_true, impl_in, wi, hu, Option.bind_some, Bool.not_true]
            refine ev_succ ?_
            simp only [impl_Hang.j0, Bool.false_eq_true, if_false]
            refine Ev.bind p2 ?_
            simp only [shutOf, Bool.false_eq_true, if_false]
            have hbad := impl_hang_bad hl i hi up (0, 0, 0, false)
            by_cases c : up ≥ 0
            · simp only [if_pos c]
              refine ev_succ ?_
              simp only [impl_Hang.j1, Bool.false_eq_true, if_false]
              exact hbad
            · simp only [if_neg c]
              refine ev_succ ?_
              simp only [impl_Hang.j1, Bool.false_eq_true, if_false]
              exact hbad
        | true =>
          have hg := pg rfl
          have specS : ∀ v, Ev (fun k => spec_Hang.j0 k l (i : Int) up false s.1 s.2.1 s.2.2.1 s.2.2.2) v → Ev (fun k => spec_Hang.f k l (i : Int) up) v := by
            intro v hv
            unfold spec_Hang.f
            refine Ev.bind es ?_
            simp only [shutOf, fiveOf, if_true, spec_in, wi, hu, Option.bind_some, Bool.not_true]
            exact hv
          by_cases c : up ≥ 0
          · obtain ⟨u, rfl⟩ : ∃ u : Nat, up = (u : Int) := ⟨up.toNat, by omega⟩
            obtain ⟨p, ok2, q1, q2, qg⟩ := where_both h u (by omega)
            have implS : ∀ v, Ev (fun k => impl_Hang.j1 k l (i : Int) (u : Int) true true s.1 s.2.1 s.2.2.1 s.2.2.2) v → Ev (fun k => impl_Hang.f k l (i : Int) (u : Int)) v := by
              intro v hv
              unfold impl_Hang.f
              refine Ev.bind ei ?_
              simp only [if_true, impl_in, wi, hu, Option.bind_some, Bool.not_true]
              refine ev_succ ?_
              simp only [impl_Hang.j0, Bool.false_eq_true, if_false]
              refine Ev.bind p2 ?_
              simp only [shutOf, fiveOf, if_true, if_pos c]
              exact hv
            cases ok2 with
            | false =>
              refine ⟨([], false), Nat.zero_le _, specS _ ?_, implS _ ?_⟩
              · refine ev_succ ?_
                simp only [spec_Hang.j0, Bool.false_eq_true, if_false]
                refine Ev.bind q1 ?_
                simp only [fiveOf, Bool.false_eq_true, if_false]
                exact Ev.now _
              · refine ev_succ ?_
                simp only [impl_Hang.j1, if_true]
                refine Ev.bind q2 ?_
                simp only [shutOf, Bool.false_eq_true, if_false]
                have hb0 := impl_back 0 0 0 false spot_zero
                rw [back_zero] at hb0
                refine Ev.bind hb0 ?_
                simp only [fiveOf]
                have hj := impl_joins 0 0 0 false s.1 s.2.1 s.2.2.1 s.2.2.2 (by omega)
                refine Ev.bind hj ?_
                generalize joinG 0 0 0 false s.1 s.2.1 s.2.2.1 s.2.2.2 = j
                obtain ⟨jx, jy, jt, jf, jo⟩ := j
                have hbad := impl_hang_bad hl i hi (u : Int) (jx, jy, jt, jf)
                cases jo with
                | true => simp only [if_true]; exact hbad
                | false => simp only [Bool.false_eq_true, if_false]; exact hbad
            | true =>
              have hp := qg rfl
              refine ⟨_, Nat.le_trans (outV_le l i _) hl0, specS _ (spec_hang_out hl hs i hi (u : Int) p s q1 hp), implS _ ?_⟩
              have hbg := back_good p.2.2.2 hp
              have hbb := spotB_bd hbg
              refine ev_succ ?_
              simp only [impl_Hang.j1, if_true]
              refine Ev.bind q2 ?_
              simp only [shutOf, fiveOf, if_true]
              refine Ev.bind (impl_back _ _ _ _ hp) ?_
              simp only [fiveOf]
              generalize backV p.1 p.2.1 p.2.2.1 p.2.2.2 = b at *
              have hj := impl_joins b.1 b.2.1 b.2.2.1 b.2.2.2 s.1 s.2.1 s.2.2.1 s.2.2.2 (by omega)
              unfold joinG goodV at hj
              rw [hbg, hg] at hj
              simp only [Bool.and_self, if_true] at hj
              refine Ev.bind hj ?_
              generalize joinV b.1 b.2.1 b.2.2.1 b.2.2.2 s.1 s.2.1 s.2.2.1 s.2.2.2 = j
              cases hjg : spotB j.1 j.2.1 j.2.2.1 with
              | true =>
                simp only [if_true]
                exact impl_hang_out hl hs i hi (u : Int) j
              | false =>
                simp only [Bool.false_eq_true, if_false]
                rw [out_bad hi hjg]
                exact impl_hang_bad hl i hi (u : Int) (0, 0, 0, false)
          · have hup : up < 0 := by omega
            have q1 : Ev (fun k => spec_l4Where.f k l up) (fiveOf (0, 0, 0, false) true) := by
              refine ev_succ ?_
              simp only [spec_l4Where.f, if_pos hup]
              exact Ev.now _
            have hso := spec_hang_out hl hs i hi up (0, 0, 0, false) s q1 spot_zero
            simp only [back_zero] at hso
            rw [join_id _ hg] at hso
            refine ⟨_, Nat.le_trans (outV_le l i _) hl0, specS _ hso, ?_⟩
            unfold impl_Hang.f
            refine Ev.bind ei ?_
            simp only [if_true, impl_in, wi, hu, Option.bind_some, Bool.not_true]
            refine ev_succ ?_
            simp only [impl_Hang.j0, Bool.false_eq_true, if_false]
            refine Ev.bind p2 ?_
            simp only [shutOf, fiveOf, if_true, if_neg c]
            refine ev_succ ?_
            simp only [impl_Hang.j1, Bool.false_eq_true, if_false]
            exact impl_hang_out hl hs i hi up s
theorem FnExactHang : laws_FnExactHang_Pure := by
  intro l a c hl ha hc
  have h1 : l.length ≤ 4398046511104 := by omega
  have hs : Named (l.map nodeOf) := by
    intro x hx
    obtain ⟨y, hy, rfl⟩ := List.mem_map.1 hx
    exact (hl.2.2 y hy).1
  apply Ev.rounds (r := true)
  unfold laws_FnExactHang.f
  obtain ⟨z, hz⟩ := sz_nodes l h1 1048576
  refine Ev.bind hz ?_
  by_cases h : z < 0
  · simp only [if_pos h]
    exact Ev.now true
  · simp only [if_neg h]
    have hk := to_nodes l h1
    have h2 : (l.map nodeOf).length ≤ 4398046511104 := by rw [List.length_map]; exact h1
    generalize l.map nodeOf = s at *
    obtain ⟨pv, hp, hsp, him⟩ := hang_both s h2 hs a c
    obtain ⟨v, b⟩ := pv
    have hp : v.length ≤ 4398046511104 := hp
    have hev := eq_nodes v hp
    obtain ⟨zs, _, hms⟩ := mark_nodes s h2
    obtain ⟨ys, hmk, hmp⟩ := mark_nodes v hp
    have hh := held_nodes ys v.length hmk hp
    refine Ev.bind hk (Ev.bind hsp (Ev.bind hk (Ev.bind him (Ev.bind hev ?_))))
    simp only [if_true, bne_self_eq_false]
    refine ev_succ ?_
    simp only [laws_FnExactHang.j0, Bool.false_eq_true, if_false]
    refine Ev.bind hk (Ev.bind (eq_nodes s h2) ?_)
    simp only [if_true]
    refine Ev.bind hms ?_
    simp only [if_neg (show ¬ (1 + 6 * (s.length : Int) < 0) by omega)]
    refine Ev.bind hev ?_
    simp only [if_true, bne_self_eq_false]
    refine ev_succ ?_
    simp only [laws_FnExactHang.j1, Bool.false_eq_true, if_false]
    refine Ev.bind hmp (Ev.bind hh ?_)
    simp only [if_neg (show ¬ (1 + 6 * (v.length : Int) < 0) by omega), if_true]
    refine Ev.bind hk (Ev.bind him (Ev.bind hev ?_))
    simp only [if_true, bne_self_eq_false]
    refine ev_succ ?_
    simp only [laws_FnExactHang.j2, Bool.false_eq_true, if_false]
    refine Ev.bind hh ?_
    simp only [if_neg (show ¬ (1 + 6 * (v.length : Int) < 0) by omega), if_true]
    exact Ev.now true
end Go.Proofs.Ytmabgkhkokckgaa.Pure
