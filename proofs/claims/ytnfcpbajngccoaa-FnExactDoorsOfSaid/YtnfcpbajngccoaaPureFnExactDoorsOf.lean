/- The program's DoorsOf and the reference's answer alike at every ground and way of faces, and the answer is rows of its own. No condition. -/
import Derived.Test.YtnfcpbajngccoaaPFnExactDoorsOfx17
namespace Go.Proofs.Ytnfcpbajngccoaa.Pure
open Go.RowKit Go.Proofs.Ytnfcpbajngccoaa.PFnExactDoorsOf Go.Proofs.YtnfcpbajngccoaaW.PrintWords Go.Proofs.YtnfcpbajngccoaaW.PrintLast Go.Proofs.YtnfcpbajngccoaaW.PrintMore
set_option linter.unusedVariables false
set_option linter.unusedSimpArgs false
/-- What can be read as a datum of type 51. -/
def Good51 (x : S51) : Prop := (Lit.int .i64 x.f0).wf = true ∧ (Lit.int .i64 x.f1).wf = true
/-- The one pure statement. -/
def laws_FnExactDoorsOf_Pure : Prop := ∀ (l0_0 : (List S51)) (l0_1 : (List (List Int))) (l1 : (List Int)), (List.length l0_0 ≤ maxLen ∧ List.length l0_0 * 16 ≤ 140737488351232 ∧ ∀ y ∈ l0_0, Good51 y) → (List.length l0_1 ≤ maxLen ∧ List.length l0_1 * 24 ≤ 140737488351232 ∧ ∀ y ∈ l0_1, (List.length y ≤ maxLen ∧ List.length y * 8 ≤ 140737488351232 ∧ ∀ z ∈ y, (Lit.int .i64 z).wf = true)) → (List.length l1 ≤ maxLen ∧ List.length l1 * 8 ≤ 140737488351232 ∧ ∀ y ∈ l1, (Lit.int .i64 y).wf = true) → ∃ k, laws_FnExactDoorsOf.f k l0_0 l0_1 l1 = some true
/-! #### whole numbers: wraps, quotients towards nought -/
theorem wrap_small {i : Int} (h0 : -9223372036854775808 ≤ i) (h1 : i ≤ 9223372036854775807) : wrap64 i = i := by unfold wrap64; omega
theorem tdiv_pos {a b : Int} (ha : 0 ≤ a) : Int.tdiv a b = a / b := Int.tdiv_eq_ediv_of_nonneg ha
theorem tmod_pos {a b : Int} (ha : 0 ≤ a) : Int.tmod a b = a % b := Int.tmod_eq_emod_of_nonneg ha
theorem tdiv_neg' {a b : Int} (ha : a < 0) : Int.tdiv a b = -((-a) / b) := by
  rw [← Int.tdiv_eq_ediv_of_nonneg (a := -a) (by omega), Int.neg_tdiv, Int.neg_neg]
theorem tmod_neg' {a b : Int} (ha : a < 0) : Int.tmod a b = -((-a) % b) := by
  rw [← Int.tmod_eq_emod_of_nonneg (a := -a) (by omega), Int.neg_tmod, Int.neg_neg]
theorem wf64 {a : Int} (h : (Lit.int .i64 a).wf = true) : -9223372036854775808 ≤ a ∧ a ≤ 9223372036854775807 := by
  simp [Lit.wf, IntKind.min, IntKind.max, IntKind.signed, IntKind.bits] at h
  omega
theorem ev_succ {α : Type} {g : Nat → Option α} {r : α} (h : Ev (fun k => g (k + 1)) r) : Ev g r := Ev.step (f := fun k => g (k + 1)) (fun _ => rfl) h
theorem ev_eq {α : Type} {g : Nat → Option α} {r : α} (h : ∀ k, g k = some r) : Ev g r := ⟨0, fun k _ => h k⟩
theorem ev_val {α : Type} {g : Nat → Option α} {r r' : α} (h : Ev g r) (e : r = r') : Ev g r' := e ▸ h
/-! #### is a number in a span -/
def inB (a b c : Int) : Bool := decide (b ≤ a ∧ a ≤ c)
theorem inB_iff {a b c : Int} : inB a b c = true ↔ b ≤ a ∧ a ≤ c := by unfold inB; rw [decide_eq_true_eq]
theorem spec_in (a b c : Int) : spec_l1In.f a b c = some (inB a b c) := by
  unfold spec_l1In.f inB
  by_cases h : a ≥ b
  · rw [if_pos h]; congr 1; rw [decide_eq_decide]; omega
  · rw [if_neg h]; congr 1; exact (decide_eq_false (by omega)).symm
theorem impl_in (a b c : Int) : impl_inRange.f a b c = some (inB a b c) := by
  unfold impl_inRange.f inB
  by_cases h : b ≤ a
  · rw [if_pos h]; congr 1; rw [decide_eq_decide]; omega
  · rw [if_neg h]; congr 1; exact (decide_eq_false (by omega)).symm
/-! #### loops that go up, from a place on -/
theorem Ev_up {σ ρ : Type} (g : Nat → Nat → σ → Option ρ) (n : Nat) (Inv : Nat → σ → Prop) (Post : ρ → Prop)
    (hend : ∀ s, Inv n s → ∃ r, Ev (fun k => g k n s) r ∧ Post r)
    (hstep : ∀ i s, i < n → Inv i s → (∃ r, Ev (fun k => g k i s) r ∧ Post r) ∨ (∃ s', Inv (i + 1) s' ∧ ∀ r, Ev (fun k => g k (i + 1) s') r → Ev (fun k => g k i s) r))
    (d : Nat) : ∀ i s, n - i = d → i ≤ n → Inv i s → ∃ r, Ev (fun k => g k i s) r ∧ Post r := by
  induction d with
  | zero =>
    intro i s hd hi hs
    obtain rfl : i = n := by omega
    exact hend s hs
  | succ d ih =>
    intro i s hd hi hs
    rcases hstep i s (by omega) hs with h | ⟨s', hs', hg⟩
    · exact h
    · obtain ⟨r, hr, hp⟩ := ih (i + 1) s' (by omega) (by omega) hs'
      exact ⟨r, hg r hr, hp⟩
theorem succ_cast {i n : Nat} (h : i < n) (hn : n ≤ 9223372036854775806) : wrap64 ((i : Int) + 1) = ((i + 1 : Nat) : Int) := by
  rw [wrap_small (by omega) (by omega)]; omega
theorem drop_cons {α : Type} {l : List α} {i : Nat} (h : i < l.length) : l.drop i = l[i] :: l.drop (i + 1) := List.drop_eq_getElem_cons h
theorem rd_at {l : List Int} {i : Nat} (h : i < l.length) : rd l (i : Int) = l[i] := by simp [rd, h]
/-! #### loops that copy and loops that compare -/
theorem set_step {α β : Type} (g : α → β) (z : β) (l : List α) (i : Nat) (hi : i < l.length) : ((l.take i).map g ++ List.replicate (l.length - i) z).set i (g l[i]) = (l.take (i + 1)).map g ++ List.replicate (l.length - (i + 1)) z := by
  have e : l.length - i = (l.length - (i + 1)) + 1 := by omega
  have hl : ((l.take i).map g).length = i := by rw [List.length_map, List.length_take]; omega
  rw [e, List.replicate_succ, List.set_append_right _ _ (by omega), hl, Nat.sub_self, List.set_cons_zero, List.take_succ_eq_append_getElem hi, List.map_append, List.append_assoc]
  rfl
/-- A loop that sets each place of a fresh list. -/
theorem ev_map {α β : Type} (l : List α) (z : β) (g : α → β) (F : Nat → List β → Int → Option (List β)) (G : Nat → α → Option β) (hG : ∀ i (hi : i < l.length), Ev (fun k => G k l[i]) (g l[i]))
    (hstep : ∀ k (x : List β) (i : Nat) (hi : i < l.length), x.length = l.length → F (k + 1) x (i : Int) = (G k l[i]).bind fun v => F k (x.set i v) ((i + 1 : Nat) : Int))
    (hend : ∀ k (x : List β), F (k + 1) x (l.length : Int) = some x) : Ev (fun k => F k (List.replicate l.length z) 0) (l.map g) := by
  have main : ∀ d i, l.length - i = d → i ≤ l.length → Ev (fun k => F k ((l.take i).map g ++ List.replicate (l.length - i) z) (i : Int)) (l.map g) := by
    intro d
    induction d with
    | zero =>
      intro i hd hi
      obtain rfl : i = l.length := by omega
      refine ev_succ ?_
      simp only [hend, Nat.sub_self, List.replicate_zero, List.append_nil, List.take_length]
      exact Ev.now _
    | succ d ih =>
      intro i hd hi
      have hlt : i < l.length := by omega
      refine ev_succ ?_
      have hx : ((l.take i).map g ++ List.replicate (l.length - i) z).length = l.length := by
        rw [List.length_append, List.length_map, List.length_take, List.length_replicate]; omega
      simp only [hstep _ _ i hlt hx]
      refine Ev.bind (hG i hlt) ?_
      simp only [set_step g z l i hlt]
      exact ih (i + 1) (by omega) (by omega)
  have := main l.length 0 (by omega) (by omega)
  simp only [List.take_zero, List.map_nil, List.nil_append, Nat.sub_zero] at this
  exact this
/-- A loop that asks each place, and every place answers true. -/
theorem ev_trues {n : Nat} (F : Nat → Int → Option Bool) (G : Nat → Nat → Option Bool) (hG : ∀ i, i < n → Ev (fun k => G k i) true)
    (hstep : ∀ k (i : Nat), i < n → F (k + 1) (i : Int) = (G k i).bind fun t => if t = true then F k ((i + 1 : Nat) : Int) else some false)
    (hend : ∀ k, F (k + 1) (n : Int) = some true) : Ev (fun k => F k 0) true := by
  have main : ∀ d i, n - i = d → i ≤ n → Ev (fun k => F k (i : Int)) true := by
    intro d
    induction d with
    | zero =>
      intro i hd hi
      obtain rfl : i = n := by omega
      refine ev_succ ?_
      simp only [hend]
      exact Ev.now _
    | succ d ih =>
      intro i hd hi
      refine ev_succ ?_
      simp only [hstep _ i (show i < n by omega)]
      refine Ev.bind (hG i (by omega)) ?_
      simp only [if_true]
      exact ih (i + 1) (by omega) (by omega)
  exact main n 0 (by omega) (by omega)
theorem toNat_cast (i : Nat) : ((i : Int)).toNat = i := Int.toNat_natCast i
/-! #### loops that stop at the first bad place -/
def bad (g : Nat → Bool) (n : Nat) : Option Nat := (List.range n).find? fun i => !g i
theorem bad_none {g : Nat → Bool} {n : Nat} : bad g n = none ↔ ∀ i, i < n → g i = true := by
  unfold bad
  rw [List.find?_eq_none]
  constructor
  · intro h i hi
    have := h i (List.mem_range.2 hi)
    simpa using this
  · intro h i hi
    simp [h i (List.mem_range.1 hi)]
theorem bad_some {g : Nat → Bool} {n i : Nat} (h : bad g n = some i) : i < n ∧ g i = false ∧ ∀ j, j < i → g j = true := by
  unfold bad at h
  have h1 := List.mem_of_find?_eq_some h
  have h2 := List.find?_some h
  refine ⟨List.mem_range.1 h1, by simpa using h2, fun j hj => ?_⟩
  obtain ⟨_, l1, l2, e, hb⟩ := List.find?_eq_some_iff_append.1 h
  have hj2 : j ∈ l1 := by
    have hlt : i < n := List.mem_range.1 h1
    have hm : j ∈ List.range n := List.mem_range.2 (by omega)
    rw [e] at hm
    rcases List.mem_append.1 hm with q | q
    · exact q
    · exfalso
      have hs : (l1 ++ i :: l2).Pairwise (· < ·) := by rw [← e]; exact List.pairwise_lt_range
      rw [List.pairwise_append] at hs
      rcases List.mem_cons.1 q with q | q
      · omega
      · have := (List.pairwise_cons.1 hs.2.1).1 j q
        omega
  have := hb j hj2
  simpa using this
/-- A loop that goes on while places are good, and gives 'stop i' at the first bad one, 'c' behind the last. -/
theorem ev_scan {β : Type} {n : Nat} (F : Nat → Int → Option β) (g : Nat → Bool) (stop : Nat → β) (c : β)
    (hcont : ∀ i, i < n → (∀ j, j < i → g j = true) → g i = true → ∀ b, Ev (fun k => F k ((i + 1 : Nat) : Int)) b → Ev (fun k => F k (i : Int)) b)
    (hstop : ∀ i, i < n → (∀ j, j < i → g j = true) → g i = false → Ev (fun k => F k (i : Int)) (stop i))
    (hend : (∀ i, i < n → g i = true) → Ev (fun k => F k (n : Int)) c) :
    Ev (fun k => F k 0) (match bad g n with | none => c | some i => stop i) := by
  cases hb : bad g n with
  | none =>
    have ha := bad_none.1 hb
    have main : ∀ d i, n - i = d → i ≤ n → Ev (fun k => F k (i : Int)) c := by
      intro d
      induction d with
      | zero =>
        intro i hd hi
        obtain rfl : i = n := by omega
        exact hend ha
      | succ d ih =>
        intro i hd hi
        exact hcont i (by omega) (fun j hj => ha j (by omega)) (ha i (by omega)) c (ih (i + 1) (by omega) (by omega))
    exact main n 0 (by omega) (by omega)
  | some m =>
    obtain ⟨hm, hg, hl⟩ := bad_some hb
    have main : ∀ d i, m - i = d → i ≤ m → Ev (fun k => F k (i : Int)) (stop m) := by
      intro d
      induction d with
      | zero =>
        intro i hd hi
        obtain rfl : i = m := by omega
        exact hstop i hm hl hg
      | succ d ih =>
        intro i hd hi
        exact hcont i (by omega) (fun j hj => hl j (by omega)) (hl i (by omega)) _ (ih (i + 1) (by omega) (by omega))
    exact main m 0 (by omega) (by omega)
def allB (n : Nat) (g : Nat → Bool) : Bool := (bad g n).isNone
theorem allB_iff {n : Nat} {g : Nat → Bool} : allB n g = true ↔ ∀ i, i < n → g i = true := by
  unfold allB
  rw [Option.isNone_iff_eq_none]
  exact bad_none
theorem allB_not {n : Nat} {g : Nat → Bool} : allB n g = false ↔ ∃ i, i < n ∧ g i = false := by
  rw [← Bool.not_eq_true, allB_iff]
  constructor
  · intro h
    refine Classical.byContradiction fun hn => h fun i hi => ?_
    cases hg : g i with
    | true => rfl
    | false => exact absurd ⟨i, hi, hg⟩ hn
  · rintro ⟨i, hi, hg⟩ h
    rw [h i hi] at hg
    cases hg
/-- The same where every bad place gives 'false'. -/
theorem ev_all {n : Nat} (F : Nat → Int → Option Bool) (g : Nat → Bool) (c : Bool)
    (hcont : ∀ i, i < n → (∀ j, j < i → g j = true) → g i = true → ∀ b, Ev (fun k => F k ((i + 1 : Nat) : Int)) b → Ev (fun k => F k (i : Int)) b)
    (hstop : ∀ i, i < n → (∀ j, j < i → g j = true) → g i = false → Ev (fun k => F k (i : Int)) false)
    (hend : (∀ i, i < n → g i = true) → Ev (fun k => F k (n : Int)) c) :
    Ev (fun k => F k 0) (allB n g && c) := by
  have h := ev_scan F g (fun _ => false) c hcont hstop hend
  unfold allB
  cases hb : bad g n with
  | none => rw [hb] at h; simpa using h
  | some m => rw [hb] at h; simpa using h
/-- The same where a bad place gives 'true' (a search). -/
theorem ev_any {n : Nat} (F : Nat → Int → Option Bool) (g : Nat → Bool)
    (hcont : ∀ i, i < n → (∀ j, j < i → g j = false) → g i = false → ∀ b, Ev (fun k => F k ((i + 1 : Nat) : Int)) b → Ev (fun k => F k (i : Int)) b)
    (hstop : ∀ i, i < n → (∀ j, j < i → g j = false) → g i = true → Ev (fun k => F k (i : Int)) true)
    (hend : (∀ i, i < n → g i = false) → Ev (fun k => F k (n : Int)) false) :
    Ev (fun k => F k 0) (!(allB n fun i => !g i)) := by
  have h := ev_scan F (fun i => !g i) (fun _ => true) false
    (fun i hi hj hg b hb => hcont i hi (fun j h => by simpa using hj j h) (by simpa using hg) b hb)
    (fun i hi hj hg => hstop i hi (fun j h => by simpa using hj j h) (by simpa using hg))
    (fun ha => hend (fun i hi => by simpa using ha i hi))
  unfold allB
  cases hb : bad (fun i => !g i) n with
  | none => rw [hb] at h; simpa using h
  | some m => rw [hb] at h; simpa using h
/-! #### loops that gather -/
theorem ev_collect {α : Type} {n : Nat} (F : Nat → List α → Int → Option (List α)) (g : Nat → Bool) (h : Nat → α)
    (hyes : ∀ acc i, i < n → acc.length ≤ i → g i = true → ∀ b, Ev (fun k => F k (acc ++ [h i]) ((i + 1 : Nat) : Int)) b → Ev (fun k => F k acc (i : Int)) b)
    (hno : ∀ acc i, i < n → g i = false → ∀ b, Ev (fun k => F k acc ((i + 1 : Nat) : Int)) b → Ev (fun k => F k acc (i : Int)) b)
    (hend : ∀ acc, Ev (fun k => F k acc (n : Int)) acc) : Ev (fun k => F k [] 0) (((List.range n).filter g).map h) := by
  have main : ∀ d i, n - i = d → i ≤ n → Ev (fun k => F k (((List.range i).filter g).map h) (i : Int)) (((List.range n).filter g).map h) := by
    intro d
    induction d with
    | zero =>
      intro i hd hi
      obtain rfl : i = n := by omega
      exact hend _
    | succ d ih =>
      intro i hd hi
      have ih := ih (i + 1) (by omega) (by omega)
      rw [List.range_succ, List.filter_append, List.map_append] at ih
      have hl : (((List.range i).filter g).map h).length ≤ i := by
        rw [List.length_map]
        exact Nat.le_trans (List.length_filter_le _ _) (by rw [List.length_range]; exact Nat.le_refl _)
      cases hg : g i with
      | true =>
        refine hyes _ i (by omega) hl hg _ ?_
        simpa [hg] using ih
      | false =>
        refine hno _ i (by omega) hg _ ?_
        simpa [hg] using ih
  exact main n 0 (by omega) (by omega)
/-! #### grounds: converted, held against one another, weighed -/
def spotOf (x : S51) : S54 := ⟨x.f0, x.f1⟩
theorem ltc {i n : Nat} (h : i < n) : (i : Int) < (n : Int) := by omega
theorem lec {i n : Nat} (h : i ≤ n) : (i : Int) ≤ (n : Int) := by omega
theorem nnc (i : Nat) : (0 : Int) ≤ (i : Int) := by omega
theorem no_lt (n : Nat) : ¬ (n : Int) < (n : Int) := by omega
theorem rd54 {l : List S54} {i : Nat} (h : i < l.length) : rd_T54 l (i : Int) = l[i] := by simp [rd_T54, h]
theorem rd51 {l : List S51} {i : Nat} (h : i < l.length) : rd_T51 l (i : Int) = l[i] := by simp [rd_T51, h]
theorem rdL {l : List (List Int)} {i : Nat} (h : i < l.length) : rd_L2 l (i : Int) = l[i] := by simp [rd_L2, h]
theorem to_spots (l : List S51) (h1 : l.length ≤ 8796093021952) : Ev (fun k => laws_toSpot2S.f k l) (l.map spotOf) := by
  unfold laws_toSpot2S.f
  simp only [if_pos (nnc l.length), toNat_cast, if_pos (show l.length ≤ 17592186044416 by omega)]
  refine ev_map l z54 spotOf (fun k x i => laws_toSpot2S.l0 k l x i) (fun _ x => some (spotOf x)) (fun i hi => Ev.now _) ?_ ?_
  · intro k x i hi hx
    simp only [laws_toSpot2S.l0, if_pos (ltc hi), if_pos (nnc i), laws_toSpot2.f, Option.bind_some, if_pos (show (i : Int) < (x.length : Int) by omega), toNat_cast, rd51 hi, succ_cast hi (by omega)]
    rfl
  · intro k x
    simp only [laws_toSpot2S.l0, if_neg (no_lt l.length)]
theorem to_ints (l : List Int) (h1 : l.length ≤ 17592186043904) : Ev (fun k => laws_toIntS.f k l) l := by
  unfold laws_toIntS.f
  simp only [if_pos (nnc l.length), toNat_cast, if_pos (show l.length ≤ 35184372088832 by omega)]
  have h := ev_map l 0 id (fun k x i => laws_toIntS.l0 k l x i) (fun _ x => some x) (fun i hi => Ev.now _) ?_ ?_
  · rw [List.map_id] at h; exact h
  · intro k x i hi hx
    simp only [laws_toIntS.l0, if_pos (ltc hi), if_pos (nnc i), Option.bind_some, if_pos (show (i : Int) < (x.length : Int) by omega), toNat_cast, rd_at hi, succ_cast hi (by omega)]
  · intro k x
    simp only [laws_toIntS.l0, if_neg (no_lt l.length)]
theorem to_rows (l : List (List Int)) (h1 : l.length ≤ 5864062014635) (h2 : ∀ x ∈ l, x.length ≤ 17592186043904) : Ev (fun k => laws_toIntSS.f k l) l := by
  unfold laws_toIntSS.f
  simp only [if_pos (nnc l.length), toNat_cast, if_pos (show l.length ≤ 11728124029610 by omega)]
  have h := ev_map l [] id (fun k x i => laws_toIntSS.l0 k l x i) (fun k x => laws_toIntS.f k x) (fun i hi => to_ints _ (h2 _ (List.getElem_mem hi))) ?_ ?_
  · rw [List.map_id] at h; exact h
  · intro k x i hi hx
    simp only [laws_toIntSS.l0, if_pos (ltc hi), if_pos (nnc i), if_pos (show (i : Int) < (x.length : Int) by omega), toNat_cast, rdL hi, succ_cast hi (by omega)]
  · intro k x
    simp only [laws_toIntSS.l0, if_neg (no_lt l.length)]
theorem to_ground (P : List S51) (F : List (List Int)) (h0 : P.length ≤ 8796093021952) (h1 : F.length ≤ 5864062014635) (h2 : ∀ x ∈ F, x.length ≤ 17592186043904) : Ev (fun k => laws_toGround.f k P F) (P.map spotOf, F) := by
  unfold laws_toGround.f
  exact Ev.bind (to_spots P h0) (Ev.bind (to_rows F h1 h2) (Ev.now _))
theorem eq_spots (l : List S54) (h1 : l.length ≤ 8796093021952) : Ev (fun k => laws_eqSpot2S.f k l l) true := by
  unfold laws_eqSpot2S.f
  simp only [if_true]
  refine ev_trues (n := l.length) (fun k i => laws_eqSpot2S.l0 k l l i) (fun _ _ => some true) (fun i hi => Ev.now _) ?_ ?_
  · intro k i hi
    simp only [laws_eqSpot2S.l0, if_pos (ltc hi), if_pos (nnc i), laws_eqSpot2.f, if_true, Option.bind_some, succ_cast hi (by omega)]
  · intro k
    simp only [laws_eqSpot2S.l0, if_neg (no_lt l.length)]
theorem eq_ints (l : List Int) (h1 : l.length ≤ 17592186043904) : Ev (fun k => laws_eqIntS.f k l l) true := by
  unfold laws_eqIntS.f
  simp only [if_true]
  refine ev_trues (n := l.length) (fun k i => laws_eqIntS.l0 k l l i) (fun _ _ => some true) (fun i hi => Ev.now _) ?_ ?_
  · intro k i hi
    simp only [laws_eqIntS.l0, if_pos (ltc hi), if_pos (nnc i), if_true, Option.bind_some, succ_cast hi (by omega)]
  · intro k
    simp only [laws_eqIntS.l0, if_neg (no_lt l.length)]
theorem eq_rows (l : List (List Int)) (h1 : l.length ≤ 5864062014635) (h2 : ∀ x ∈ l, x.length ≤ 17592186043904) : Ev (fun k => laws_eqIntSS.f k l l) true := by
  unfold laws_eqIntSS.f
  simp only [if_true]
  refine ev_trues (n := l.length) (fun k i => laws_eqIntSS.l0 k l l i) (fun k i => laws_eqIntS.f k (rd_L2 l (i : Int)) (rd_L2 l (i : Int))) (fun i hi => by rw [rdL hi]; exact eq_ints _ (h2 _ (List.getElem_mem hi))) ?_ ?_
  · intro k i hi
    simp only [laws_eqIntSS.l0, if_pos (ltc hi), if_pos (nnc i), succ_cast hi (by omega)]
  · intro k
    simp only [laws_eqIntSS.l0, if_neg (no_lt l.length)]
theorem eq_ground (P : List S54) (F : List (List Int)) (h0 : P.length ≤ 8796093021952) (h1 : F.length ≤ 5864062014635) (h2 : ∀ x ∈ F, x.length ≤ 17592186043904) : Ev (fun k => laws_eqGround.f k P F P F) true := by
  unfold laws_eqGround.f
  refine Ev.bind (eq_spots P h0) ?_
  simp only [if_true]
  refine Ev.bind (eq_rows F h1 h2) ?_
  simp only [if_true]
  exact Ev.now _
theorem sz_rows (l : List (List Int)) (h1 : l.length ≤ 5864062014635) (v : Int) : ∃ r, Ev (fun k => laws_szIntSS.f k l v) r := by
  unfold laws_szIntSS.f
  by_cases h : wrap64 (v - (l.length : Int)) < 0
  · simp only [if_pos h]; exact ⟨_, Ev.now _⟩
  · simp only [if_neg h]
    obtain ⟨r, hr, _⟩ := Ev_up (fun k (i : Nat) (s : Int) => laws_szIntSS.l0 k l s (i : Int)) l.length (fun _ _ => True) (fun _ => True) (fun s _ => ⟨s, ev_succ (by simp only [laws_szIntSS.l0, if_neg (no_lt l.length)]; exact Ev.now _), trivial⟩) (fun i s hi _ => by
      by_cases q : wrap64 (s - ((rd_L2 l (i : Int)).length : Int)) < 0
      · left
        refine ⟨-1, ev_succ ?_, trivial⟩
        simp only [laws_szIntSS.l0, if_pos (ltc hi), if_pos (nnc i), laws_szIntS.f, if_pos q, Option.bind_some, show (-1 : Int) < 0 from by decide, if_true]
        exact Ev.now _
      · right
        refine ⟨wrap64 (s - ((rd_L2 l (i : Int)).length : Int)), trivial, fun r hr => ev_succ ?_⟩
        simp only [laws_szIntSS.l0, if_pos (ltc hi), if_pos (nnc i), laws_szIntS.f, if_neg q, Option.bind_some, succ_cast hi (by omega)]
        exact hr) l.length 0 (wrap64 (v - (l.length : Int))) (by omega) (by omega) trivial
    exact ⟨r, hr⟩
theorem sz_ground (P : List S51) (F : List (List Int)) (h1 : F.length ≤ 5864062014635) (v : Int) : ∃ r, Ev (fun k => laws_szGround.f k P F v) r := by
  unfold laws_szGround.f laws_szSpot2S.f
  by_cases h : wrap64 (v - (P.length : Int)) < 0
  · simp only [if_pos h, Option.bind_some, show (-1 : Int) < 0 from by decide, if_true]; exact ⟨_, Ev.now _⟩
  · simp only [if_neg h, Option.bind_some]
    obtain ⟨r, hr⟩ := sz_rows F h1 (wrap64 (v - (P.length : Int)))
    by_cases q : r < 0
    · exact ⟨-1, Ev.bind hr (by simp only [if_pos q]; exact Ev.now _)⟩
    · exact ⟨r, Ev.bind hr (by simp only [if_neg q]; exact Ev.now _)⟩
/-! #### faces and grounds -/
def nxt (n i : Nat) : Nat := (i + 1) % n
theorem nxt_lt {n i : Nat} (h : i < n) : nxt n i < n := Nat.mod_lt _ (by omega)
theorem tmod_nxt {n i : Nat} (h : i < n) (hn : n ≤ 9223372036854775806) : Int.tmod (wrap64 ((i : Int) + 1)) (n : Int) = ((nxt n i : Nat) : Int) := by
  rw [succ_cast h hn, Int.tmod_eq_emod_of_nonneg (by omega)]
  rfl
theorem rd_take {f : List Int} {i j : Nat} (h : j < i) : rd (f.take i) (j : Int) = rd f (j : Int) := by
  simp [rd, List.getElem?_take, h]
theorem rdL_take {f : List (List Int)} {i j : Nat} (h : j < i) : rd_L2 (f.take i) (j : Int) = rd_L2 f (j : Int) := by
  simp [rd_L2, List.getElem?_take, h]
theorem rd54_take {f : List S54} {i j : Nat} (h : j < i) : rd_T54 (f.take i) (j : Int) = rd_T54 f (j : Int) := by
  simp [rd_T54, List.getElem?_take, h]
theorem take_len {α : Type} {f : List α} {i : Nat} (h : i ≤ f.length) : (f.take i).length = i := by rw [List.length_take]; omega
def crossV (a b c : S54) : Int := wrap64 ((wrap64 ((wrap64 (b.f0 - a.f0)) * (wrap64 (c.f1 - a.f1)))) - (wrap64 ((wrap64 (b.f1 - a.f1)) * (wrap64 (c.f0 - a.f0)))))
theorem spec_cross (a b c : S54) : spec_l8Cross.f a.f0 a.f1 b.f0 b.f1 c.f0 c.f1 = some (crossV a b c) := rfl
theorem impl_cross (a b c : S54) : impl_bend.f a.f0 a.f1 b.f0 b.f1 c.f0 c.f1 = some (crossV a b c) := rfl
def ptAt (P : List S54) (i : Int) : S54 := rd_T54 P i
def newB (f : List Int) (i : Nat) : Bool := allB i fun j => !decide (rd f (i : Int) = rd f (j : Int))
def cornerB (m : Nat) (f : List Int) (i : Nat) : Bool := inB (rd f (i : Int)) 0 (wrap64 ((m : Int) - 1)) && newB f i
def turnB (P : List S54) (f : List Int) (i : Nat) : Bool := allB f.length fun k => decide (k = i) || (decide (k = nxt f.length i) || !decide (crossV (rd_T54 P (rd f (i : Int))) (rd_T54 P (rd f ((nxt f.length i : Nat) : Int))) (rd_T54 P (rd f (k : Int))) ≤ 0))
def faceB (P : List S54) (f : List Int) : Bool := decide (3 ≤ f.length ∧ f.length ≤ 8) && (allB f.length (cornerB P.length f) && allB f.length (turnB P f))
theorem corner_in {m : Nat} {f : List Int} {i : Nat} (hm : m ≤ 40) (h : cornerB m f i = true) : 0 ≤ rd f (i : Int) ∧ rd f (i : Int) < (m : Int) := by
  unfold cornerB at h
  rw [Bool.and_eq_true, inB_iff, wrap_small (by omega) (by omega)] at h
  omega
theorem spec_new (P : List S54) (F : List (List Int)) (f : List Int) (hf : f.length ≤ 17592186043904) (i : Nat) (hi : i < f.length) (b : Bool) (hb : newB f i = true → Ev (fun k => spec_l8Face.l0 k f f (f.length : Int) ((i + 1 : Nat) : Int) P F) b) :
    Ev (fun k => spec_l8Face.l1 k f (rd f (i : Int)) f (f.length : Int) (i : Int) (f.take i) ((f.take i).length : Int) 0 P F) (newB f i && b) := by
  have ht := take_len (f := f) (i := i) (by omega)
  unfold newB
  refine ev_all (n := i) (fun k j => spec_l8Face.l1 k f (rd f (i : Int)) f (f.length : Int) (i : Int) (f.take i) ((f.take i).length : Int) j P F) _ b ?_ ?_ ?_
  · intro j hj _ hg c hc
    refine ev_succ ?_
    simp only [Bool.not_eq_true', decide_eq_false_iff_not] at hg
    rw [ht] at hc ⊢
    simp only [spec_l8Face.l1, ht, if_pos (ltc hj), if_pos (nnc j), rd_take hj, if_neg hg, succ_cast hj (show i ≤ 9223372036854775806 by omega)]
    exact hc
  · intro j hj _ hg
    refine ev_succ ?_
    simp only [Bool.not_eq_false', decide_eq_true_eq] at hg
    rw [ht]
    simp only [spec_l8Face.l1, ht, if_pos (ltc hj), if_pos (nnc j), rd_take hj, if_pos hg]
    exact Ev.now _
  · intro ha
    refine ev_succ ?_
    rw [ht]
    simp only [spec_l8Face.l1, if_neg (no_lt i), succ_cast hi (by omega)]
    exact hb (allB_iff.2 ha)
theorem spec_turn (P : List S54) (hP : P.length ≤ 40) (F : List (List Int)) (f : List Int) (hf : f.length ≤ 8) (hc : ∀ i, i < f.length → cornerB P.length f i = true) (i : Nat) (hi : i < f.length) (b : Bool) (hb : turnB P f i = true → Ev (fun k => spec_l8Face.l2 k f f (f.length : Int) ((i + 1 : Nat) : Int) P F) b) :
    Ev (fun k => spec_l8Face.l3 k f (i : Int) (rd f (i : Int)) (Int.tmod (wrap64 ((i : Int) + 1)) (f.length : Int)) f (f.length : Int) (i : Int) f (f.length : Int) 0 P F) (turnB P f i && b) := by
  rw [tmod_nxt hi (by omega)]
  have hx := nxt_lt hi
  have ci := corner_in hP (hc i hi)
  have cx := corner_in hP (hc _ hx)
  unfold turnB
  refine ev_all (fun k j => spec_l8Face.l3 k f (i : Int) (rd f (i : Int)) ((nxt f.length i : Nat) : Int) f (f.length : Int) (i : Int) f (f.length : Int) j P F) _ b ?_ ?_ ?_
  · intro j hj _ hg c hcc
    have cj := corner_in hP (hc j hj)
    refine ev_succ ?_
    simp only [spec_l8Face.l3, if_pos (ltc hj), if_pos (nnc j), succ_cast hj (show f.length ≤ 9223372036854775806 by omega)]
    by_cases e1 : j = i
    · simp only [if_pos (show (j : Int) = (i : Int) by omega)]; exact hcc
    · simp only [if_neg (show ¬ (j : Int) = (i : Int) by omega)]
      by_cases e2 : j = nxt f.length i
      · simp only [if_pos (show (j : Int) = ((nxt f.length i : Nat) : Int) by omega)]; exact hcc
      · simp only [if_neg (show ¬ (j : Int) = ((nxt f.length i : Nat) : Int) by omega)]
        simp only [decide_eq_false e1, decide_eq_false e2, Bool.false_or, Bool.not_eq_true', decide_eq_false_iff_not] at hg
        simp only [if_pos ci.1, if_pos ci.2, if_pos (nnc (nxt f.length i)), if_pos (ltc hx), if_pos cx.1, if_pos cx.2, if_pos cj.1, if_pos cj.2, spec_cross, Option.bind_some, if_neg hg]
        exact hcc
  · intro j hj _ hg
    have cj := corner_in hP (hc j hj)
    refine ev_succ ?_
    simp only [Bool.or_eq_false_iff, decide_eq_false_iff_not, Bool.not_eq_false', decide_eq_true_eq] at hg
    simp only [spec_l8Face.l3, if_pos (ltc hj), if_pos (nnc j), if_neg (show ¬ (j : Int) = (i : Int) by omega), if_neg (show ¬ (j : Int) = ((nxt f.length i : Nat) : Int) by omega)]
    simp only [if_pos ci.1, if_pos ci.2, if_pos (nnc (nxt f.length i)), if_pos (ltc hx), if_pos cx.1, if_pos cx.2, if_pos cj.1, if_pos cj.2, spec_cross, Option.bind_some, if_pos hg.2.2]
    exact Ev.now _
  · intro ha
    refine ev_succ ?_
    simp only [spec_l8Face.l3, if_neg (no_lt f.length), succ_cast hi (show f.length ≤ 9223372036854775806 by omega)]
    exact hb (allB_iff.2 ha)
theorem spec_face (P : List S54) (hP : P.length ≤ 40) (F : List (List Int)) (f : List Int) : Ev (fun k => spec_l8Face.f k P F f) (faceB P f) := by
  unfold spec_l8Face.f faceB
  have no : Ev (fun k => spec_l8Face.j0 k f true P F) false := ev_succ (by simp only [spec_l8Face.j0, if_true]; exact Ev.now _)
  by_cases h3 : (f.length : Int) < 3
  · simp only [if_pos h3, decide_eq_false (show ¬ (3 ≤ f.length ∧ f.length ≤ 8) by omega), Bool.false_and]; exact no
  simp only [if_neg h3]
  by_cases h8 : (f.length : Int) > 8
  · simp only [decide_eq_true h8, decide_eq_false (show ¬ (3 ≤ f.length ∧ f.length ≤ 8) by omega), Bool.false_and]; exact no
  simp only [decide_eq_false h8, decide_eq_true (show 3 ≤ f.length ∧ f.length ≤ 8 by omega), Bool.true_and]
  have hf : f.length ≤ 8 := by omega
  refine ev_succ ?_
  simp only [spec_l8Face.j0, Bool.false_eq_true, if_false]
  refine ev_all (fun k i => spec_l8Face.l0 k f f (f.length : Int) i P F) _ _ ?_ ?_ ?_
  · intro i hi _ hg b hb
    refine ev_succ ?_
    unfold cornerB at hg
    rw [Bool.and_eq_true] at hg
    simp only [spec_l8Face.l0, if_pos (ltc hi), if_pos (nnc i), spec_in, Option.bind_some, hg.1, if_true, if_pos (lec (Nat.le_of_lt hi)), toNat_cast]
    have h := spec_new P F f (by omega) i hi b (fun _ => hb)
    rw [hg.2, Bool.true_and] at h
    exact h
  · intro i hi _ hg
    refine ev_succ ?_
    unfold cornerB at hg
    simp only [spec_l8Face.l0, if_pos (ltc hi), if_pos (nnc i), spec_in, Option.bind_some]
    cases h1 : inB (rd f (i : Int)) 0 (wrap64 ((P.length : Int) - 1)) with
    | false => simp only [Bool.false_eq_true, if_false]; exact Ev.now _
    | true =>
      rw [h1, Bool.true_and] at hg
      simp only [if_true, if_pos (lec (Nat.le_of_lt hi)), toNat_cast]
      have h := spec_new P F f (by omega) i hi false (fun ha => by rw [hg] at ha; cases ha)
      rw [Bool.and_false] at h
      exact h
  · intro hc
    have hcc : ∀ i, i < f.length → cornerB P.length f i = true := hc
    refine ev_succ ?_
    simp only [spec_l8Face.l0, if_neg (no_lt f.length)]
    have h := ev_all (n := f.length) (fun k i => spec_l8Face.l2 k f f (f.length : Int) i P F) (turnB P f) true ?_ ?_ ?_
    · rw [Bool.and_true] at h; exact h
    · intro i hi _ hg b hb
      refine ev_succ ?_
      simp only [spec_l8Face.l2, if_pos (ltc hi), if_pos (nnc i), if_neg (show ¬ (f.length : Int) = 0 by omega)]
      have h := spec_turn P hP F f hf hcc i hi b (fun _ => hb)
      rw [hg, Bool.true_and] at h
      exact h
    · intro i hi _ hg
      refine ev_succ ?_
      simp only [spec_l8Face.l2, if_pos (ltc hi), if_pos (nnc i), if_neg (show ¬ (f.length : Int) = 0 by omega)]
      have h := spec_turn P hP F f hf hcc i hi false (fun ha => by rw [hg] at ha; cases ha)
      rw [Bool.and_false] at h
      exact h
    · intro _
      refine ev_succ ?_
      simp only [spec_l8Face.l2, if_neg (no_lt f.length)]
      exact Ev.now _
/-! #### the program's faces -/
theorem impl_index (l : List Int) (hl : l.length ≤ 17592186043904) (a : Int) : Ev (fun k => slices_Index_int_int.f k l a) (match bad (fun j => !decide (a = rd l (j : Int))) l.length with | none => -1 | some i => (i : Int)) := by
  unfold slices_Index_int_int.f
  refine ev_scan (fun k i => slices_Index_int_int.l0 k l a (l.length : Int) i) _ (fun i => (i : Int)) (-1) ?_ ?_ ?_
  · intro i hi _ hg b hb
    refine ev_succ ?_
    simp only [Bool.not_eq_true', decide_eq_false_iff_not] at hg
    simp only [slices_Index_int_int.l0, if_pos (ltc hi), if_pos (nnc i), if_neg hg, succ_cast hi (by omega)]
    exact hb
  · intro i hi _ hg
    refine ev_succ ?_
    simp only [Bool.not_eq_false', decide_eq_true_eq] at hg
    simp only [slices_Index_int_int.l0, if_pos (ltc hi), if_pos (nnc i), if_pos hg]
    exact Ev.now _
  · intro _
    refine ev_succ ?_
    simp only [slices_Index_int_int.l0, if_neg (no_lt l.length)]
    exact Ev.now _
theorem impl_contains (l : List Int) (hl : l.length ≤ 17592186043904) (a : Int) : Ev (fun k => slices_Contains_int_int.f k l a) (!(allB l.length fun j => !decide (a = rd l (j : Int)))) := by
  unfold slices_Contains_int_int.f
  refine Ev.bind (impl_index l hl a) ?_
  unfold allB
  cases bad (fun j => !decide (a = rd l (j : Int))) l.length with
  | none => exact Ev.now _
  | some i => simp only [decide_eq_true (show (i : Int) ≥ 0 by omega)]; exact Ev.now _
theorem allB_congr {n : Nat} {g h : Nat → Bool} (e : ∀ i, i < n → g i = h i) : allB n g = allB n h := by
  rw [Bool.eq_iff_iff, allB_iff, allB_iff]
  exact ⟨fun q i hi => (e i hi) ▸ q i hi, fun q i hi => (e i hi).symm ▸ q i hi⟩
theorem impl_contains_take (f : List Int) (hf : f.length ≤ 17592186043904) (i : Nat) (hi : i < f.length) : Ev (fun k => slices_Contains_int_int.f k (f.take i) (rd f (i : Int))) (!(newB f i)) := by
  have ht := take_len (f := f) (i := i) (by omega)
  have h := impl_contains (f.take i) (by omega) (rd f (i : Int))
  rw [ht, allB_congr (h := fun j => !decide (rd f (i : Int) = rd f (j : Int))) (fun j hj => by rw [rd_take hj])] at h
  exact h
theorem impl_edge (f : List Int) (hf : f.length ≤ 17592186043904) (i : Nat) (hi : i < f.length) : impl_edgeOf.f f (i : Int) = some (rd f (i : Int), rd f ((nxt f.length i : Nat) : Int)) := by
  unfold impl_edgeOf.f
  rw [if_pos (nnc i), if_pos (ltc hi), if_neg (by omega), tmod_nxt hi (by omega), if_pos (nnc _), if_pos (ltc (nxt_lt hi))]
def turnI (P : List S54) (f : List Int) (i : Nat) : Bool := allB f.length fun k => decide (rd f (k : Int) = rd f (i : Int)) || (decide (rd f (k : Int) = rd f ((nxt f.length i : Nat) : Int)) || !decide (crossV (rd_T54 P (rd f (i : Int))) (rd_T54 P (rd f ((nxt f.length i : Nat) : Int))) (rd_T54 P (rd f (k : Int))) ≤ 0))
theorem impl_turn (P : List S54) (hP : P.length ≤ 40) (F : List (List Int)) (f : List Int) (hf : f.length ≤ 17592186043904) (hc : ∀ i, i < f.length → cornerB P.length f i = true) (i : Nat) (hi : i < f.length) (b : Bool) (hb : turnI P f i = true → Ev (fun k => impl_Ground_isFace.l1 k f (f.length : Int) ((i + 1 : Nat) : Int) P F) b) :
    Ev (fun k => impl_Ground_isFace.l2 k f (rd f (i : Int)) (rd f ((nxt f.length i : Nat) : Int)) (f.length : Int) (i : Int) f (f.length : Int) 0 P F) (turnI P f i && b) := by
  have hx := nxt_lt hi
  have ci := corner_in hP (hc i hi)
  have cx := corner_in hP (hc _ hx)
  unfold turnI
  refine ev_all (fun k j => impl_Ground_isFace.l2 k f (rd f (i : Int)) (rd f ((nxt f.length i : Nat) : Int)) (f.length : Int) (i : Int) f (f.length : Int) j P F) _ b ?_ ?_ ?_
  · intro j hj _ hg c hcc
    have cj := corner_in hP (hc j hj)
    refine ev_succ ?_
    simp only [impl_Ground_isFace.l2, if_pos (ltc hj), if_pos (nnc j), succ_cast hj (show f.length ≤ 9223372036854775806 by omega)]
    by_cases e1 : rd f (j : Int) = rd f (i : Int)
    · simp only [if_pos e1]; exact hcc
    · simp only [if_neg e1]
      by_cases e2 : rd f (j : Int) = rd f ((nxt f.length i : Nat) : Int)
      · simp only [if_pos e2]; exact hcc
      · simp only [if_neg e2]
        simp only [decide_eq_false e1, decide_eq_false e2, Bool.false_or, Bool.not_eq_true', decide_eq_false_iff_not] at hg
        simp only [if_pos ci.1, if_pos ci.2, if_pos cx.1, if_pos cx.2, if_pos cj.1, if_pos cj.2, impl_cross, Option.bind_some, if_neg hg]
        exact hcc
  · intro j hj _ hg
    have cj := corner_in hP (hc j hj)
    refine ev_succ ?_
    simp only [Bool.or_eq_false_iff, decide_eq_false_iff_not, Bool.not_eq_false', decide_eq_true_eq] at hg
    simp only [impl_Ground_isFace.l2, if_pos (ltc hj), if_pos (nnc j)]
    simp only [if_neg hg.1, if_neg hg.2.1, if_pos ci.1, if_pos ci.2, if_pos cx.1, if_pos cx.2, if_pos cj.1, if_pos cj.2, impl_cross, Option.bind_some, if_pos hg.2.2]
    exact Ev.now _
  · intro ha
    refine ev_succ ?_
    simp only [impl_Ground_isFace.l2, if_neg (no_lt f.length), succ_cast hi (show f.length ≤ 9223372036854775806 by omega)]
    exact hb (allB_iff.2 ha)
theorem new_ne {f : List Int} (h : ∀ i, i < f.length → newB f i = true) {i j : Nat} (hi : i < f.length) (hj : j < f.length) : rd f (i : Int) = rd f (j : Int) ↔ i = j := by
  constructor
  · intro e
    rcases Nat.lt_trichotomy i j with q | q | q
    · have := allB_iff.1 (h j hj) i q
      simp only [Bool.not_eq_true', decide_eq_false_iff_not] at this
      exact absurd e.symm this
    · exact q
    · have := allB_iff.1 (h i hi) j q
      simp only [Bool.not_eq_true', decide_eq_false_iff_not] at this
      exact absurd e this
  · rintro rfl; rfl
theorem turn_alike (P : List S54) (f : List Int) (h : ∀ i, i < f.length → newB f i = true) (i : Nat) (hi : i < f.length) : turnI P f i = turnB P f i := by
  unfold turnI turnB
  refine allB_congr fun k hk => ?_
  have e1 : decide (rd f (k : Int) = rd f (i : Int)) = decide (k = i) := by rw [decide_eq_decide]; exact new_ne h hk hi
  have e2 : decide (rd f (k : Int) = rd f ((nxt f.length i : Nat) : Int)) = decide (k = nxt f.length i) := by rw [decide_eq_decide]; exact new_ne h hk (nxt_lt hi)
  rw [e1, e2]
theorem impl_face (P : List S54) (hP : P.length ≤ 40) (F : List (List Int)) (f : List Int) (hf : f.length ≤ 17592186043904) : Ev (fun k => impl_Ground_isFace.f k P F f) (faceB P f) := by
  unfold impl_Ground_isFace.f
  have h := ev_all (n := f.length) (fun k i => impl_Ground_isFace.l0 k f f (f.length : Int) i P F) (cornerB P.length f) (allB f.length (turnI P f) && inB (f.length : Int) 3 8) ?_ ?_ ?_
  · refine ev_val h ?_
    unfold faceB
    cases hc : allB f.length (cornerB P.length f) with
    | false => simp
    | true =>
      have hn : ∀ i, i < f.length → newB f i = true := fun i hi => by
        have := allB_iff.1 hc i hi
        unfold cornerB at this
        rw [Bool.and_eq_true] at this
        exact this.2
      rw [allB_congr (turn_alike P f hn), Bool.true_and, Bool.true_and, Bool.and_comm]
      congr 1
      rw [Bool.eq_iff_iff, inB_iff, decide_eq_true_eq]
      omega
  · intro i hi _ hg b hb
    refine ev_succ ?_
    unfold cornerB at hg
    rw [Bool.and_eq_true] at hg
    simp only [impl_Ground_isFace.l0, if_pos (ltc hi), if_pos (nnc i), impl_in, Option.bind_some, hg.1, if_true, if_pos (lec (Nat.le_of_lt hi)), toNat_cast]
    refine Ev.bind (impl_contains_take f hf i hi) ?_
    simp only [hg.2, Bool.not_true, Bool.false_eq_true, if_false, succ_cast hi (show f.length ≤ 9223372036854775806 by omega)]
    exact hb
  · intro i hi _ hg
    refine ev_succ ?_
    unfold cornerB at hg
    simp only [impl_Ground_isFace.l0, if_pos (ltc hi), if_pos (nnc i), impl_in, Option.bind_some]
    cases h1 : inB (rd f (i : Int)) 0 (wrap64 ((P.length : Int) - 1)) with
    | false => simp only [Bool.false_eq_true, if_false]; exact Ev.now _
    | true =>
      rw [h1, Bool.true_and] at hg
      simp only [if_true, if_pos (lec (Nat.le_of_lt hi)), toNat_cast]
      refine Ev.bind (impl_contains_take f hf i hi) ?_
      simp only [hg, Bool.not_false, if_true]
      exact Ev.now _
  · intro hc
    refine ev_succ ?_
    simp only [impl_Ground_isFace.l0, if_neg (no_lt f.length)]
    refine ev_all (fun k i => impl_Ground_isFace.l1 k f (f.length : Int) i P F) (turnI P f) _ ?_ ?_ ?_
    · intro i hi _ hg b hb
      refine ev_succ ?_
      simp only [impl_Ground_isFace.l1, if_pos (ltc hi), impl_edge f hf i hi, Option.bind_some]
      have h := impl_turn P hP F f hf hc i hi b (fun _ => hb)
      rw [hg, Bool.true_and] at h
      exact h
    · intro i hi _ hg
      refine ev_succ ?_
      simp only [impl_Ground_isFace.l1, if_pos (ltc hi), impl_edge f hf i hi, Option.bind_some]
      have h := impl_turn P hP F f hf hc i hi false (fun ha => by rw [hg] at ha; cases ha)
      rw [Bool.and_false] at h
      exact h
    · intro _
      refine ev_succ ?_
      simp only [impl_Ground_isFace.l1, if_neg (no_lt f.length), impl_in, Option.bind_some]
      exact Ev.now _
/-! #### edges -/
def edgeB (o : List Int) (a b : Int) (m : Nat) : Bool := decide (rd o (m : Int) = a) && decide (rd o ((nxt o.length m : Nat) : Int) = b)
def goesB (o : List Int) (a b : Int) : Bool := !(allB o.length fun m => !(edgeB o a b m))
def edgeV (o : List Int) (a b : Int) : Int := match bad (fun m => !(edgeB o a b m)) o.length with | none => -1 | some i => (i : Int)
theorem edgeV_goes (o : List Int) (a b : Int) : decide (edgeV o a b ≥ 0) = goesB o a b := by
  unfold edgeV goesB allB
  cases bad (fun m => !(edgeB o a b m)) o.length with
  | none => rfl
  | some i => simp
theorem spec_edge (o : List Int) (ho : o.length ≤ 17592186043904) (a b : Int) : Ev (fun k => spec_l8Edge.f k o a b) (edgeV o a b) := by
  unfold spec_l8Edge.f edgeV
  refine ev_scan (fun k i => spec_l8Edge.l0 k o a b o (o.length : Int) i) _ (fun i => (i : Int)) (-1) ?_ ?_ ?_
  · intro i hi _ hg c hc
    refine ev_succ ?_
    simp only [spec_l8Edge.l0, if_pos (ltc hi), if_pos (nnc i), if_neg (show ¬ (o.length : Int) = 0 by omega), tmod_nxt hi (show o.length ≤ 9223372036854775806 by omega), if_pos (nnc (nxt o.length i)), if_pos (ltc (nxt_lt hi))]
    simp only [succ_cast hi (show o.length ≤ 9223372036854775806 by omega)]
    by_cases e1 : rd o (i : Int) = a
    · simp only [if_pos e1]
      by_cases e2 : rd o ((nxt o.length i : Nat) : Int) = b
      · unfold edgeB at hg
        rw [decide_eq_true e1, decide_eq_true e2] at hg
        cases hg
      · simp only [if_neg e2]; exact hc
    · simp only [if_neg e1]; exact hc
  · intro i hi _ hg
    refine ev_succ ?_
    unfold edgeB at hg
    simp only [Bool.not_eq_false', Bool.and_eq_true, decide_eq_true_eq] at hg
    simp only [spec_l8Edge.l0, if_pos (ltc hi), if_pos (nnc i), if_neg (show ¬ (o.length : Int) = 0 by omega), tmod_nxt hi (show o.length ≤ 9223372036854775806 by omega), if_pos (nnc (nxt o.length i)), if_pos (ltc (nxt_lt hi)), if_pos hg.1, if_pos hg.2]
    exact Ev.now _
  · intro _
    refine ev_succ ?_
    simp only [spec_l8Edge.l0, if_neg (no_lt o.length)]
    exact Ev.now _
theorem impl_goes_ (o : List Int) (ho : o.length ≤ 17592186043904) (a b : Int) : Ev (fun k => impl_goes.f k o a b) (goesB o a b) := by
  unfold impl_goes.f goesB
  refine ev_any (fun k i => impl_goes.l0 k o a b (o.length : Int) i) (edgeB o a b) ?_ ?_ ?_
  · intro i hi _ hg c hc
    refine ev_succ ?_
    simp only [impl_goes.l0, if_pos (ltc hi), impl_edge o ho i hi, Option.bind_some, succ_cast hi (show o.length ≤ 9223372036854775806 by omega)]
    by_cases e1 : rd o (i : Int) = a
    · simp only [if_pos e1]
      by_cases e2 : rd o ((nxt o.length i : Nat) : Int) = b
      · unfold edgeB at hg
        rw [decide_eq_true e1, decide_eq_true e2] at hg
        cases hg
      · simp only [if_neg e2]; exact hc
    · simp only [if_neg e1]; exact hc
  · intro i hi _ hg
    refine ev_succ ?_
    unfold edgeB at hg
    simp only [Bool.and_eq_true, decide_eq_true_eq] at hg
    simp only [impl_goes.l0, if_pos (ltc hi), impl_edge o ho i hi, Option.bind_some, if_pos hg.1, if_pos hg.2]
    exact Ev.now _
  · intro _
    refine ev_succ ?_
    simp only [impl_goes.l0, if_neg (no_lt o.length)]
    exact Ev.now _
def sharesB (f o : List Int) : Bool := !(allB f.length fun k => !(goesB o (rd f (k : Int)) (rd f ((nxt f.length k : Nat) : Int))))
theorem impl_shares (f o : List Int) (hf : f.length ≤ 17592186043904) (ho : o.length ≤ 17592186043904) : Ev (fun k => impl_sharesEdge.f k f o) (sharesB f o) := by
  unfold impl_sharesEdge.f sharesB
  refine ev_any (fun k i => impl_sharesEdge.l0 k f o (f.length : Int) i) (fun k => goesB o (rd f (k : Int)) (rd f ((nxt f.length k : Nat) : Int))) ?_ ?_ ?_
  · intro i hi _ hg c hc
    refine ev_succ ?_
    simp only [impl_sharesEdge.l0, if_pos (ltc hi), impl_edge f hf i hi, Option.bind_some, succ_cast hi (show f.length ≤ 9223372036854775806 by omega)]
    refine Ev.bind (impl_goes_ o ho _ _) ?_
    simp only [hg, Bool.false_eq_true, if_false]
    exact hc
  · intro i hi _ hg
    refine ev_succ ?_
    simp only [impl_sharesEdge.l0, if_pos (ltc hi), impl_edge f hf i hi, Option.bind_some]
    refine Ev.bind (impl_goes_ o ho _ _) ?_
    simp only [hg, if_true]
    exact Ev.now _
  · intro _
    refine ev_succ ?_
    simp only [impl_sharesEdge.l0, if_neg (no_lt f.length)]
    exact Ev.now _
/-! #### good grounds -/
def onB (x : S54) : Bool := inB x.f0 (-1000) 1000 && inB x.f1 (-1000) 1000
theorem spec_place (x y : Int) : spec_l8Place.f x y = some (onB ⟨x, y⟩) := by
  unfold spec_l8Place.f onB
  simp only [spec_in, Option.bind_some]
  cases inB x (-1000) 1000 <;> simp
theorem impl_place (x y : Int) : impl_isOnGround.f x y = some (onB ⟨x, y⟩) := by
  unfold impl_isOnGround.f onB
  simp only [impl_in, Option.bind_some]
  cases inB x (-1000) 1000 <;> simp
def sameB (x y : S54) : Bool := x.f0 == y.f0 && x.f1 == y.f1
def newPB (P : List S54) (i : Nat) : Bool := allB i fun j => !(sameB (rd_T54 P (i : Int)) (rd_T54 P (j : Int)))
def pointB (P : List S54) (i : Nat) : Bool := onB (rd_T54 P (i : Int)) && newPB P i
def apartB (F : List (List Int)) (i : Nat) : Bool := allB i fun j => !(sharesB (rd_L2 F (i : Int)) (rd_L2 F (j : Int)))
def faceAtB (P : List S54) (F : List (List Int)) (i : Nat) : Bool := faceB P (rd_L2 F (i : Int)) && apartB F i
def groundB (P : List S54) (F : List (List Int)) : Bool := decide (P.length ≤ 40 ∧ 1 ≤ F.length ∧ F.length ≤ 20) && (allB P.length (pointB P) && allB F.length (faceAtB P F))
theorem spec_newP (P : List S54) (hP : P.length ≤ 40) (F : List (List Int)) (i : Nat) (hi : i < P.length) (b : Bool) (hb : newPB P i = true → Ev (fun k => spec_GoodGround.l0 k P (P.length : Int) ((i + 1 : Nat) : Int) P F) b) :
    Ev (fun k => spec_GoodGround.l1 k P (P.length : Int) (i : Int) (P.take i) ((P.take i).length : Int) 0 P F (rd_T54 P (i : Int)).f0 (rd_T54 P (i : Int)).f1) (newPB P i && b) := by
  have ht := take_len (f := P) (i := i) (by omega)
  unfold newPB
  refine ev_all (n := i) (fun k j => spec_GoodGround.l1 k P (P.length : Int) (i : Int) (P.take i) ((P.take i).length : Int) j P F (rd_T54 P (i : Int)).f0 (rd_T54 P (i : Int)).f1) _ b ?_ ?_ ?_
  · intro j hj _ hg c hc
    refine ev_succ ?_
    rw [ht] at hc ⊢
    unfold sameB at hg
    simp only [Bool.not_eq_true'] at hg
    simp only [spec_GoodGround.l1, ht, if_pos (ltc hj), if_pos (nnc j), rd54_take hj, hg, Bool.false_eq_true, if_false, succ_cast hj (show i ≤ 9223372036854775806 by omega)]
    exact hc
  · intro j hj _ hg
    refine ev_succ ?_
    rw [ht]
    unfold sameB at hg
    simp only [Bool.not_eq_false'] at hg
    simp only [spec_GoodGround.l1, ht, if_pos (ltc hj), if_pos (nnc j), rd54_take hj, hg, if_true]
    exact Ev.now _
  · intro ha
    refine ev_succ ?_
    rw [ht]
    simp only [spec_GoodGround.l1, if_neg (no_lt i), succ_cast hi (by omega)]
    exact hb (allB_iff.2 ha)
theorem spec_share (P : List S54) (F : List (List Int)) (f : List Int) (hf : f.length ≤ 17592186043904) (i : Nat) (M : List (List Int)) (j : Nat) (hj : j < M.length) (hM : M.length ≤ 5864062014635) (ho : (rd_L2 M (j : Int)).length ≤ 17592186043904) (b : Bool) (hb : sharesB f (rd_L2 M (j : Int)) = false → Ev (fun k => spec_GoodGround.l3 k f F (F.length : Int) (i : Int) M (M.length : Int) ((j + 1 : Nat) : Int) P F) b) :
    Ev (fun k => spec_GoodGround.l4 k f (rd_L2 M (j : Int)) F (F.length : Int) (i : Int) M (M.length : Int) (j : Int) f (f.length : Int) 0 P F) (!(sharesB f (rd_L2 M (j : Int))) && b) := by
  unfold sharesB at hb ⊢
  rw [Bool.not_not]
  refine ev_all (fun k m => spec_GoodGround.l4 k f (rd_L2 M (j : Int)) F (F.length : Int) (i : Int) M (M.length : Int) (j : Int) f (f.length : Int) m P F) _ b ?_ ?_ ?_
  · intro m hm _ hg c hc
    refine ev_succ ?_
    simp only [spec_GoodGround.l4, if_pos (ltc hm), if_pos (nnc m), if_neg (show ¬ (f.length : Int) = 0 by omega), tmod_nxt hm (show f.length ≤ 9223372036854775806 by omega), if_pos (nnc (nxt f.length m)), if_pos (ltc (nxt_lt hm))]
    simp only [succ_cast hm (show f.length ≤ 9223372036854775806 by omega)]
    refine Ev.bind (spec_edge _ ho _ _) ?_
    rw [← edgeV_goes] at hg
    simp only [Bool.not_eq_true', decide_eq_false_iff_not] at hg
    simp only [if_neg hg]
    exact hc
  · intro m hm _ hg
    refine ev_succ ?_
    simp only [spec_GoodGround.l4, if_pos (ltc hm), if_pos (nnc m), if_neg (show ¬ (f.length : Int) = 0 by omega), tmod_nxt hm (show f.length ≤ 9223372036854775806 by omega), if_pos (nnc (nxt f.length m)), if_pos (ltc (nxt_lt hm))]
    refine Ev.bind (spec_edge _ ho _ _) ?_
    rw [← edgeV_goes] at hg
    simp only [Bool.not_eq_false', decide_eq_true_eq] at hg
    simp only [if_pos hg]
    exact Ev.now _
  · intro ha
    refine ev_succ ?_
    simp only [spec_GoodGround.l4, if_neg (no_lt f.length), succ_cast hj (show M.length ≤ 9223372036854775806 by omega)]
    exact hb (by rw [allB_iff.2 ha]; rfl)
theorem spec_apart (P : List S54) (F : List (List Int)) (hF : F.length ≤ 20) (hr : ∀ x ∈ F, x.length ≤ 17592186043904) (i : Nat) (hi : i < F.length) (b : Bool) (hb : apartB F i = true → Ev (fun k => spec_GoodGround.l2 k F (F.length : Int) ((i + 1 : Nat) : Int) P F) b) :
    Ev (fun k => spec_GoodGround.l3 k (rd_L2 F (i : Int)) F (F.length : Int) (i : Int) (F.take i) ((F.take i).length : Int) 0 P F) (apartB F i && b) := by
  have ht := take_len (f := F) (i := i) (by omega)
  have hl : ∀ j, j < F.length → (rd_L2 F (j : Int)).length ≤ 17592186043904 := fun j hj => by rw [rdL hj]; exact hr _ (List.getElem_mem hj)
  have hs : ∀ j, j < i → ∀ c, (sharesB (rd_L2 F (i : Int)) (rd_L2 F (j : Int)) = false → Ev (fun k => spec_GoodGround.l3 k (rd_L2 F (i : Int)) F (F.length : Int) (i : Int) (F.take i) ((F.take i).length : Int) ((j + 1 : Nat) : Int) P F) c) → Ev (fun k => spec_GoodGround.l3 k (rd_L2 F (i : Int)) F (F.length : Int) (i : Int) (F.take i) ((F.take i).length : Int) (j : Int) P F) (!(sharesB (rd_L2 F (i : Int)) (rd_L2 F (j : Int))) && c) := by
    intro j hj c hc
    refine ev_succ ?_
    rw [ht] at hc ⊢
    simp only [spec_GoodGround.l3, ht, if_pos (ltc hj), if_pos (nnc j)]
    have h := spec_share P F (rd_L2 F (i : Int)) (hl i hi) i (F.take i) j (by omega) (by omega) (by rw [rdL_take hj]; exact hl j (by omega)) c (by rw [rdL_take hj, ht]; exact hc)
    rw [rdL_take hj, ht] at h
    rw [rdL_take hj]
    exact h
  unfold apartB
  refine ev_all (n := i) (fun k j => spec_GoodGround.l3 k (rd_L2 F (i : Int)) F (F.length : Int) (i : Int) (F.take i) ((F.take i).length : Int) j P F) _ b ?_ ?_ ?_
  · intro j hj _ hg c hc
    have h := hs j hj c (fun _ => hc)
    rw [hg, Bool.true_and] at h
    exact h
  · intro j hj _ hg
    have h := hs j hj false (fun h => by rw [h] at hg; cases hg)
    rw [hg, Bool.false_and] at h
    exact h
  · intro ha
    refine ev_succ ?_
    rw [ht]
    simp only [spec_GoodGround.l3, if_neg (no_lt i), succ_cast hi (by omega)]
    exact hb (allB_iff.2 ha)
theorem spec_ground (P : List S54) (F : List (List Int)) (hr : ∀ x ∈ F, x.length ≤ 17592186043904) : Ev (fun k => spec_GoodGround.f k P F) (groundB P F) := by
  unfold spec_GoodGround.f groundB
  have no : Ev (fun k => spec_GoodGround.j0 k true P F) false := ev_succ (by simp only [spec_GoodGround.j0, if_true]; exact Ev.now _)
  by_cases h1 : (P.length : Int) > 40
  · simp only [if_pos h1, decide_eq_false (show ¬ (P.length ≤ 40 ∧ 1 ≤ F.length ∧ F.length ≤ 20) by omega), Bool.false_and]; exact no
  simp only [if_neg h1]
  by_cases h2 : (F.length : Int) < 1
  · simp only [if_pos h2, decide_eq_false (show ¬ (P.length ≤ 40 ∧ 1 ≤ F.length ∧ F.length ≤ 20) by omega), Bool.false_and]; exact no
  simp only [if_neg h2]
  by_cases h3 : (F.length : Int) > 20
  · simp only [decide_eq_true h3, decide_eq_false (show ¬ (P.length ≤ 40 ∧ 1 ≤ F.length ∧ F.length ≤ 20) by omega), Bool.false_and]; exact no
  simp only [decide_eq_false h3, decide_eq_true (show P.length ≤ 40 ∧ 1 ≤ F.length ∧ F.length ≤ 20 by omega), Bool.true_and]
  have hP : P.length ≤ 40 := by omega
  have hF : F.length ≤ 20 := by omega
  refine ev_succ ?_
  simp only [spec_GoodGround.j0, Bool.false_eq_true, if_false]
  refine ev_all (fun k i => spec_GoodGround.l0 k P (P.length : Int) i P F) _ _ ?_ ?_ ?_
  · intro i hi _ hg b hb
    refine ev_succ ?_
    unfold pointB at hg
    rw [Bool.and_eq_true] at hg
    simp only [spec_GoodGround.l0, if_pos (ltc hi), if_pos (nnc i), spec_place, Option.bind_some, hg.1, if_true, if_pos (lec (Nat.le_of_lt hi)), toNat_cast]
    have h := spec_newP P hP F i hi b (fun _ => hb)
    rw [hg.2, Bool.true_and] at h
    exact h
  · intro i hi _ hg
    refine ev_succ ?_
    unfold pointB at hg
    simp only [spec_GoodGround.l0, if_pos (ltc hi), if_pos (nnc i), spec_place, Option.bind_some]
    cases h1 : onB (rd_T54 P (i : Int)) with
    | false => simp only [Bool.false_eq_true, if_false]; exact Ev.now _
    | true =>
      rw [h1, Bool.true_and] at hg
      simp only [if_true, if_pos (lec (Nat.le_of_lt hi)), toNat_cast]
      have h := spec_newP P hP F i hi false (fun ha => by rw [hg] at ha; cases ha)
      rw [Bool.and_false] at h
      exact h
  · intro _
    refine ev_succ ?_
    simp only [spec_GoodGround.l0, if_neg (no_lt P.length)]
    have h := ev_all (n := F.length) (fun k i => spec_GoodGround.l2 k F (F.length : Int) i P F) (faceAtB P F) true ?_ ?_ ?_
    · rw [Bool.and_true] at h; exact h
    · intro i hi _ hg b hb
      refine ev_succ ?_
      unfold faceAtB at hg
      rw [Bool.and_eq_true] at hg
      simp only [spec_GoodGround.l2, if_pos (ltc hi), if_pos (nnc i)]
      refine Ev.bind (spec_face P hP F _) ?_
      simp only [hg.1, if_true, if_pos (lec (Nat.le_of_lt hi)), toNat_cast, Option.bind_some]
      have h := spec_apart P F hF hr i hi b (fun _ => hb)
      rw [hg.2, Bool.true_and] at h
      exact h
    · intro i hi _ hg
      refine ev_succ ?_
      unfold faceAtB at hg
      simp only [spec_GoodGround.l2, if_pos (ltc hi), if_pos (nnc i)]
      refine Ev.bind (spec_face P hP F _) ?_
      cases h1 : faceB P (rd_L2 F (i : Int)) with
      | false => simp only [Bool.false_eq_true, if_false]; exact Ev.now _
      | true =>
        rw [h1, Bool.true_and] at hg
        simp only [if_true, if_pos (lec (Nat.le_of_lt hi)), toNat_cast, Option.bind_some]
        have h := spec_apart P F hF hr i hi false (fun ha => by rw [hg] at ha; cases ha)
        rw [Bool.and_false] at h
        exact h
    · intro _
      refine ev_succ ?_
      simp only [spec_GoodGround.l2, if_neg (no_lt F.length)]
      exact Ev.now _
/-! #### the program's grounds -/
theorem impl_sameIdx (l : List S54) (hl : l.length ≤ 17592186043904) (x : S54) : Ev (fun k => impl_Spot2_69.f k l x.f0 x.f1) (match bad (fun j => !(sameB x (rd_T54 l (j : Int)))) l.length with | none => -1 | some i => (i : Int)) := by
  unfold impl_Spot2_69.f
  refine ev_scan (fun k i => impl_Spot2_69.l0 k l (l.length : Int) i x.f0 x.f1) _ (fun i => (i : Int)) (-1) ?_ ?_ ?_
  · intro i hi _ hg b hb
    refine ev_succ ?_
    unfold sameB at hg
    simp only [Bool.not_eq_true'] at hg
    simp only [impl_Spot2_69.l0, if_pos (ltc hi), if_pos (nnc i), hg, Bool.false_eq_true, if_false, succ_cast hi (show l.length ≤ 9223372036854775806 by omega)]
    exact hb
  · intro i hi _ hg
    refine ev_succ ?_
    unfold sameB at hg
    simp only [Bool.not_eq_false'] at hg
    simp only [impl_Spot2_69.l0, if_pos (ltc hi), if_pos (nnc i), hg, if_true]
    exact Ev.now _
  · intro _
    refine ev_succ ?_
    simp only [impl_Spot2_69.l0, if_neg (no_lt l.length)]
    exact Ev.now _
theorem impl_hasSame (l : List S54) (hl : l.length ≤ 17592186043904) (x : S54) : Ev (fun k => impl_Spot2_45.f k l x.f0 x.f1) (!(allB l.length fun j => !(sameB x (rd_T54 l (j : Int))))) := by
  unfold impl_Spot2_45.f
  refine Ev.bind (impl_sameIdx l hl x) ?_
  unfold allB
  cases bad (fun j => !(sameB x (rd_T54 l (j : Int)))) l.length with
  | none => exact Ev.now _
  | some i => simp only [decide_eq_true (show (i : Int) ≥ 0 by omega)]; exact Ev.now _
theorem impl_hasSame_take (P : List S54) (hP : P.length ≤ 40) (i : Nat) (hi : i < P.length) : Ev (fun k => impl_Spot2_45.f k (P.take i) (rd_T54 P (i : Int)).f0 (rd_T54 P (i : Int)).f1) (!(newPB P i)) := by
  have ht := take_len (f := P) (i := i) (by omega)
  have h := impl_hasSame (P.take i) (by omega) (rd_T54 P (i : Int))
  rw [ht, allB_congr (h := fun j => !(sameB (rd_T54 P (i : Int)) (rd_T54 P (j : Int)))) (fun j hj => by rw [rd54_take hj])] at h
  exact h
/-- Every member's answer at enough rounds. -/
theorem ev_common {α : Type} (l : List α) (G : Nat → α → Option Bool) (p : α → Bool) (h : ∀ x ∈ l, Ev (fun k => G k x) (p x)) : Ev (fun k => anyO (G k) l) (l.any p) := by
  have key : ∃ n, ∀ k, n ≤ k → ∀ x ∈ l, G k x = some (p x) := by
    induction l with
    | nil => exact ⟨0, fun _ _ _ h => absurd h (by simp)⟩
    | cons y l ih =>
      obtain ⟨n, hn⟩ := ih (fun x hx => h x (List.mem_cons_of_mem _ hx))
      obtain ⟨m, hm⟩ := h y (List.mem_cons_self ..)
      refine ⟨max n m, fun k hk x hx => ?_⟩
      rcases List.mem_cons.1 hx with e | e
      · rw [e]; exact hm k (by omega)
      · exact hn k (by omega) x e
  obtain ⟨n, hn⟩ := key
  exact ⟨n, fun k hk => anyO_some p (hn k hk)⟩
theorem any_take {F : List (List Int)} {i : Nat} (hi : i ≤ F.length) (q : List Int → Bool) : (F.take i).any q = !(allB i fun j => !(q (rd_L2 F (j : Int)))) := by
  rw [Bool.eq_iff_iff, List.any_eq_true, Bool.not_eq_true', allB_not]
  constructor
  · rintro ⟨x, hx, hq⟩
    obtain ⟨j, hj, rfl⟩ := List.getElem_of_mem hx
    have hj2 : j < i := by rw [take_len hi] at hj; exact hj
    refine ⟨j, hj2, ?_⟩
    rw [rdL (by omega)]
    rw [List.getElem_take] at hq
    simp [hq]
  · rintro ⟨j, hj, hq⟩
    rw [rdL (by omega)] at hq
    refine ⟨F[j]'(by omega), ?_, by simpa using hq⟩
    exact List.mem_take_iff_getElem.2 ⟨j, by omega, rfl⟩
theorem impl_apart (F : List (List Int)) (hF : F.length ≤ 20) (hr : ∀ x ∈ F, x.length ≤ 17592186043904) (i : Nat) (hi : i < F.length) : Ev (fun k => slices_ContainsFunc_int_int.f k (F.take i) (rd_L2 F (i : Int))) (!(apartB F i)) := by
  unfold slices_ContainsFunc_int_int.f
  have h := ev_common (F.take i) (fun k x => impl_sharesEdge.f k (rd_L2 F (i : Int)) x) (fun x => sharesB (rd_L2 F (i : Int)) x) (fun x hx => impl_shares _ _ (by rw [rdL hi]; exact hr _ (List.getElem_mem hi)) (hr x (List.mem_of_mem_take hx)))
  rw [any_take (by omega)] at h
  exact h
theorem impl_ground (P : List S54) (F : List (List Int)) (hr : ∀ x ∈ F, x.length ≤ 17592186043904) : Ev (fun k => impl_GoodGround.f k P F) (groundB P F) := by
  unfold impl_GoodGround.f groundB
  have no : Ev (fun k => impl_GoodGround.j0 k true P F) false := ev_succ (by simp only [impl_GoodGround.j0, if_true]; exact Ev.now _)
  by_cases h1 : (P.length : Int) > 40
  · simp only [if_pos h1, decide_eq_false (show ¬ (P.length ≤ 40 ∧ 1 ≤ F.length ∧ F.length ≤ 20) by omega), Bool.false_and]; exact no
  simp only [if_neg h1, impl_in, Option.bind_some]
  cases h2 : inB (F.length : Int) 1 20 with
  | false =>
    have : ¬ (1 ≤ (F.length : Int) ∧ (F.length : Int) ≤ 20) := fun h => by rw [inB_iff.2 h] at h2; cases h2
    simp only [Bool.not_false, decide_eq_false (show ¬ (P.length ≤ 40 ∧ 1 ≤ F.length ∧ F.length ≤ 20) by omega), Bool.false_and]; exact no
  | true =>
  have h3 := inB_iff.1 h2
  simp only [Bool.not_true, decide_eq_true (show P.length ≤ 40 ∧ 1 ≤ F.length ∧ F.length ≤ 20 by omega), Bool.true_and]
  have hP : P.length ≤ 40 := by omega
  have hF : F.length ≤ 20 := by omega
  refine ev_succ ?_
  simp only [impl_GoodGround.j0, Bool.false_eq_true, if_false]
  refine ev_all (fun k i => impl_GoodGround.l0 k P (P.length : Int) i P F) _ _ ?_ ?_ ?_
  · intro i hi _ hg b hb
    refine ev_succ ?_
    unfold pointB at hg
    rw [Bool.and_eq_true] at hg
    simp only [impl_GoodGround.l0, if_pos (ltc hi), if_pos (nnc i), impl_place, Option.bind_some, hg.1, if_true, if_pos (lec (Nat.le_of_lt hi)), toNat_cast]
    refine Ev.bind (impl_hasSame_take P hP i hi) ?_
    simp only [hg.2, Bool.not_true, Bool.false_eq_true, if_false, succ_cast hi (show P.length ≤ 9223372036854775806 by omega)]
    exact hb
  · intro i hi _ hg
    refine ev_succ ?_
    unfold pointB at hg
    simp only [impl_GoodGround.l0, if_pos (ltc hi), if_pos (nnc i), impl_place, Option.bind_some]
    cases h1 : onB (rd_T54 P (i : Int)) with
    | false => simp only [Bool.false_eq_true, if_false]; exact Ev.now _
    | true =>
      rw [h1, Bool.true_and] at hg
      simp only [if_true, if_pos (lec (Nat.le_of_lt hi)), toNat_cast]
      refine Ev.bind (impl_hasSame_take P hP i hi) ?_
      simp only [hg, Bool.not_false, if_true]
      exact Ev.now _
  · intro _
    refine ev_succ ?_
    simp only [impl_GoodGround.l0, if_neg (no_lt P.length)]
    have h := ev_all (n := F.length) (fun k i => impl_GoodGround.l1 k F (F.length : Int) i P F) (faceAtB P F) true ?_ ?_ ?_
    · rw [Bool.and_true] at h; exact h
    · intro i hi _ hg b hb
      refine ev_succ ?_
      unfold faceAtB at hg
      rw [Bool.and_eq_true] at hg
      simp only [impl_GoodGround.l1, if_pos (ltc hi), if_pos (nnc i)]
      refine Ev.bind (impl_face P hP F _ (by rw [rdL hi]; exact hr _ (List.getElem_mem hi))) ?_
      simp only [hg.1, if_true, if_pos (lec (Nat.le_of_lt hi)), toNat_cast]
      refine Ev.bind (impl_apart F hF hr i hi) ?_
      simp only [hg.2, Bool.not_true, Bool.false_eq_true, if_false, succ_cast hi (show F.length ≤ 9223372036854775806 by omega)]
      exact hb
    · intro i hi _ hg
      refine ev_succ ?_
      unfold faceAtB at hg
      simp only [impl_GoodGround.l1, if_pos (ltc hi), if_pos (nnc i)]
      refine Ev.bind (impl_face P hP F _ (by rw [rdL hi]; exact hr _ (List.getElem_mem hi))) ?_
      cases h1 : faceB P (rd_L2 F (i : Int)) with
      | false => simp only [Bool.false_eq_true, if_false]; exact Ev.now _
      | true =>
        rw [h1, Bool.true_and] at hg
        simp only [if_true, if_pos (lec (Nat.le_of_lt hi)), toNat_cast]
        refine Ev.bind (impl_apart F hF hr i hi) ?_
        simp only [hg, Bool.not_false, if_true]
        exact Ev.now _
    · intro _
      refine ev_succ ?_
      simp only [impl_GoodGround.l1, if_neg (no_lt F.length)]
      exact Ev.now _
/-! #### what a good ground is; which face has a place -/
structure GoodG (P : List S54) (F : List (List Int)) : Prop where
  hP : P.length ≤ 40
  hF : 1 ≤ F.length ∧ F.length ≤ 20
  face : ∀ i, i < F.length → (rd_L2 F (i : Int)).length ≤ 8 ∧ 3 ≤ (rd_L2 F (i : Int)).length ∧ ∀ j, j < (rd_L2 F (i : Int)).length → 0 ≤ rd (rd_L2 F (i : Int)) (j : Int) ∧ rd (rd_L2 F (i : Int)) (j : Int) < (P.length : Int)
theorem good_of {P : List S54} {F : List (List Int)} (h : groundB P F = true) : GoodG P F := by
  unfold groundB at h
  rw [Bool.and_eq_true, decide_eq_true_eq, Bool.and_eq_true] at h
  obtain ⟨⟨h1, h2, h3⟩, _, h5⟩ := h
  refine ⟨h1, ⟨h2, h3⟩, fun i hi => ?_⟩
  have hf := allB_iff.1 h5 i hi
  unfold faceAtB at hf
  rw [Bool.and_eq_true] at hf
  have hg := hf.1
  unfold faceB at hg
  rw [Bool.and_eq_true, decide_eq_true_eq, Bool.and_eq_true] at hg
  exact ⟨hg.1.2, hg.1.1, fun j hj => corner_in h1 (allB_iff.1 hg.2.1 j hj)⟩
/-! #### doors, and the faces beside a face -/
def doorB (f o : List Int) (k : Nat) : Bool := goesB o (rd f ((nxt f.length k : Nat) : Int)) (rd f (k : Int))
def hasDoor (f o : List Int) : Bool := !(allB f.length fun k => !(doorB f o k))
def doorAt (f : List Int) (k : Nat) : List Int := [rd f (k : Int), rd f ((nxt f.length k : Nat) : Int)]
def doorV (f o : List Int) : List Int × Bool := match bad (fun k => !(doorB f o k)) f.length with | none => ([], false) | some k => (doorAt f k, true)
theorem doorV_has (f o : List Int) : (doorV f o).2 = hasDoor f o := by
  unfold doorV hasDoor allB
  cases bad (fun k => !(doorB f o k)) f.length <;> rfl
theorem spec_door {P : List S54} {F : List (List Int)} (hg : GoodG P F) (i j : Nat) (hi : i < F.length) (hj : j < F.length) : Ev (fun k => spec_l8Door.f k P F (i : Int) (j : Int)) (doorV (rd_L2 F (i : Int)) (rd_L2 F (j : Int))) := by
  obtain ⟨h8, h3, hc⟩ := hg.face i hi
  obtain ⟨o8, o3, _⟩ := hg.face j hj
  unfold spec_l8Door.f
  simp only [if_pos (nnc i), if_pos (ltc hi)]
  generalize rd_L2 F (i : Int) = f at h8 h3 hc
  unfold doorV
  refine ev_scan (n := f.length) (fun k m => spec_l8Door.l0 k (j : Int) f f (f.length : Int) m P F) (fun k => !(doorB f (rd_L2 F (j : Int)) k)) (fun k => (doorAt f k, true)) ([], false) ?_ ?_ ?_
  · intro m hm _ hb c hcc
    refine ev_succ ?_
    simp only [spec_l8Door.l0, if_pos (ltc hm), if_pos (nnc m), if_neg (show ¬ (f.length : Int) = 0 by omega), tmod_nxt hm (show f.length ≤ 9223372036854775806 by omega), if_pos (nnc (nxt f.length m)), if_pos (ltc (nxt_lt hm)), if_pos (nnc j), if_pos (ltc hj)]
    simp only [succ_cast hm (show f.length ≤ 9223372036854775806 by omega)]
    refine Ev.bind (spec_edge _ (by omega) _ _) ?_
    unfold doorB at hb
    rw [← edgeV_goes] at hb
    simp only [Bool.not_eq_true', decide_eq_false_iff_not] at hb
    simp only [if_neg hb]
    exact hcc
  · intro m hm _ hb
    refine ev_succ ?_
    simp only [spec_l8Door.l0, if_pos (ltc hm), if_pos (nnc m), if_neg (show ¬ (f.length : Int) = 0 by omega), tmod_nxt hm (show f.length ≤ 9223372036854775806 by omega), if_pos (nnc (nxt f.length m)), if_pos (ltc (nxt_lt hm)), if_pos (nnc j), if_pos (ltc hj)]
    refine Ev.bind (spec_edge _ (by omega) _ _) ?_
    unfold doorB at hb
    rw [← edgeV_goes] at hb
    simp only [Bool.not_eq_false', decide_eq_true_eq] at hb
    simp only [if_pos hb]
    exact Ev.now _
  · intro _
    refine ev_succ ?_
    simp only [spec_l8Door.l0, if_neg (no_lt f.length)]
    exact Ev.now _
theorem impl_doors_ (f o : List Int) (hf : f.length ≤ 8) (ho : o.length ≤ 8) : Ev (fun k => impl_doors.f k f o) (((List.range f.length).filter (doorB f o)).map (doorAt f)) := by
  unfold impl_doors.f
  refine ev_collect (fun k acc i => impl_doors.l0 k f o acc (f.length : Int) i) (doorB f o) (doorAt f) ?_ ?_ ?_
  · intro acc i hi hl hb c hcc
    refine ev_succ ?_
    simp only [impl_doors.l0, if_pos (ltc hi), impl_edge f (by omega) i hi, Option.bind_some]
    refine Ev.bind (impl_goes_ o (by omega) _ _) ?_
    unfold doorB at hb
    simp only [hb, if_true, if_pos (show acc.length < 5864062014805 by omega), succ_cast hi (show f.length ≤ 9223372036854775806 by omega)]
    exact hcc
  · intro acc i hi hb c hcc
    refine ev_succ ?_
    simp only [impl_doors.l0, if_pos (ltc hi), impl_edge f (by omega) i hi, Option.bind_some]
    refine Ev.bind (impl_goes_ o (by omega) _ _) ?_
    unfold doorB at hb
    simp only [hb, Bool.false_eq_true, if_false, succ_cast hi (show f.length ≤ 9223372036854775806 by omega)]
    exact hcc
  · intro acc
    refine ev_succ ?_
    simp only [impl_doors.l0, if_neg (no_lt f.length)]
    exact Ev.now _
theorem doors_some (f o : List Int) : decide (((((List.range f.length).filter (doorB f o)).map (doorAt f)).length : Int) > 0) = hasDoor f o := by
  rw [Bool.eq_iff_iff, decide_eq_true_eq, List.length_map]
  unfold hasDoor
  rw [Bool.not_eq_true', allB_not]
  constructor
  · intro h
    obtain ⟨x, hx⟩ := List.exists_mem_of_length_pos (show 0 < ((List.range f.length).filter (doorB f o)).length by omega)
    rw [List.mem_filter, List.mem_range] at hx
    exact ⟨x, hx.1, by simp [hx.2]⟩
  · rintro ⟨i, hi, hb⟩
    have : i ∈ (List.range f.length).filter (doorB f o) := by rw [List.mem_filter, List.mem_range]; exact ⟨hi, by simpa using hb⟩
    have := List.length_pos_of_mem this
    omega
/-! #### marks in whole numbers -/
theorem mark_ints (l : List Int) (a : Int) (hl : l.length ≤ 17592186043904) (a0 : 0 ≤ a) (a1 : a ≤ 4611686018427387904) : ∃ r : Int × List Int, Ev (fun k => laws_markIntS.f k l a) r ∧ (r.1 = a + (l.length : Int) ∧ r.2.length = l.length ∧ ∀ j : Nat, j < l.length → r.2[j]? = some (a + (j : Int))) := by
  unfold laws_markIntS.f
  obtain ⟨r, hr, hp⟩ := Ev_up (fun k (i : Nat) (s : List Int × Int) => laws_markIntS.l0 k s.1 s.2 (i : Int)) l.length (fun i s => s.1.length = l.length ∧ s.2 = a + (i : Int) ∧ ∀ j : Nat, j < i → s.1[j]? = some (a + (j : Int))) (fun r => r.1 = a + (l.length : Int) ∧ r.2.length = l.length ∧ ∀ j : Nat, j < l.length → r.2[j]? = some (a + (j : Int)))
    (fun s hs => ⟨(s.2, s.1), ev_succ (by simp only [laws_markIntS.l0, if_neg (show ¬ (l.length : Int) < (s.1.length : Int) by have := hs.1; omega)]; exact Ev.now _), hs.2.1, hs.1, hs.2.2⟩)
    (fun i s hi hs => by
      right
      obtain ⟨x0, x1⟩ := s
      obtain ⟨h1, h2, h3⟩ := hs
      dsimp only at h1 h2 h3
      refine ⟨(x0.set i x1, x1 + 1), ⟨by rw [List.length_set]; exact h1, by dsimp only; omega, fun j hj => ?_⟩, fun r hr => ev_succ ?_⟩
      · dsimp only
        by_cases e : j = i
        · subst e
          rw [List.getElem?_set_self (by omega), h2]
        · rw [List.getElem?_set_ne (by omega)]
          exact h3 j (by omega)
      · simp only [laws_markIntS.l0, if_pos (show (i : Int) < (x0.length : Int) by omega), if_pos (nnc i), toNat_cast, succ_cast hi (by omega), wrap_small (show -9223372036854775808 ≤ x1 + 1 by omega) (show x1 + 1 ≤ 9223372036854775807 by omega)]
        exact hr) l.length 0 (l, a) (by omega) (by omega) ⟨rfl, by dsimp only; omega, fun j hj => by omega⟩
  exact ⟨r, hr, hp⟩
theorem held_ints (l : List Int) (a : Int) (hl : l.length ≤ 17592186043904) (a0 : 0 ≤ a) (a1 : a ≤ 4611686018427387904) (h : ∀ j : Nat, j < l.length → l[j]? = some (a + (j : Int))) : Ev (fun k => laws_heldIntS.f k l a) (a + (l.length : Int)) := by
  unfold laws_heldIntS.f
  obtain ⟨r, hr, hp⟩ := Ev_up (fun k (i : Nat) (s : Int) => laws_heldIntS.l0 k l s (i : Int)) l.length (fun i s => s = a + (i : Int)) (fun r => r = a + (l.length : Int))
    (fun s hs => ⟨s, ev_succ (by simp only [laws_heldIntS.l0, if_neg (no_lt l.length)]; exact Ev.now _), hs⟩)
    (fun i s hi hs => by
      right
      refine ⟨s + 1, by omega, fun r hr => ev_succ ?_⟩
      have hv : rd l (i : Int) = s := by
        have := h i hi
        simp only [rd, toNat_cast, List.getD_eq_getElem?_getD, this, Option.getD_some]
        exact hs.symm
      simp only [laws_heldIntS.l0, if_pos (ltc hi), if_pos (nnc i), if_pos hv, succ_cast hi (by omega), wrap_small (show -9223372036854775808 ≤ s + 1 by omega) (show s + 1 ≤ 9223372036854775807 by omega)]
      exact hr) l.length 0 a (by omega) (by omega) (by omega)
  rw [hp] at hr
  exact hr
/-! #### marks in grounds -/
def sumLen : List (List Int) → Nat
  | [] => 0
  | x :: l => x.length + sumLen l
theorem sumLen_append (l m : List (List Int)) : sumLen (l ++ m) = sumLen l + sumLen m := by
  induction l with
  | nil => simp [sumLen]
  | cons x l ih => simp only [List.cons_append, sumLen, ih]; omega
theorem sumLen_take {l : List (List Int)} {i : Nat} (h : i < l.length) : sumLen (l.take (i + 1)) = sumLen (l.take i) + l[i].length := by
  rw [List.take_succ_eq_append_getElem h, sumLen_append]; simp [sumLen]
theorem sz_ground_le (P : List S51) (F : List (List Int)) (hP : P.length ≤ 8796093021952) (h1 : F.length ≤ 5864062014635) (h2 : ∀ x ∈ F, x.length ≤ 17592186043904) : ∃ r, Ev (fun k => laws_szGround.f k P F 1048576) r ∧ (r < 0 ∨ P.length ≤ 1048576 ∧ F.length ≤ 1048576 ∧ sumLen F ≤ 1048576) := by
  unfold laws_szGround.f laws_szSpot2S.f
  by_cases h : wrap64 (1048576 - (P.length : Int)) < 0
  · simp only [if_pos h, Option.bind_some, show (-1 : Int) < 0 from by decide, if_true]; exact ⟨_, Ev.now _, .inl (by decide)⟩
  · have hp : wrap64 (1048576 - (P.length : Int)) = 1048576 - (P.length : Int) := wrap_small (by omega) (by omega)
    rw [hp] at h
    simp only [hp, if_neg h, Option.bind_some]
    have key : ∃ r, Ev (fun k => laws_szIntSS.f k F (1048576 - (P.length : Int))) r ∧ (r < 0 ∨ F.length ≤ 1048576 ∧ sumLen F ≤ 1048576) := by
      unfold laws_szIntSS.f
      by_cases q : wrap64 (1048576 - (P.length : Int) - (F.length : Int)) < 0
      · simp only [if_pos q]; exact ⟨_, Ev.now _, .inl (by decide)⟩
      · have hq : wrap64 (1048576 - (P.length : Int) - (F.length : Int)) = 1048576 - (P.length : Int) - (F.length : Int) := wrap_small (by omega) (by omega)
        rw [hq] at q
        simp only [hq, if_neg q]
        obtain ⟨r, hr, hp⟩ := Ev_up (fun k (i : Nat) (s : Int) => laws_szIntSS.l0 k F s (i : Int)) F.length (fun i s => 0 ≤ s ∧ s + (sumLen (F.take i) : Int) ≤ 1048576) (fun r => r < 0 ∨ sumLen F ≤ 1048576)
          (fun s hs => ⟨s, ev_succ (by simp only [laws_szIntSS.l0, if_neg (no_lt F.length)]; exact Ev.now _), .inr (by have := hs.2; rw [List.take_length] at this; have := hs.1; omega)⟩)
          (fun i s hi hs => by
            have hx := h2 _ (List.getElem_mem hi)
            by_cases q : wrap64 (s - ((rd_L2 F (i : Int)).length : Int)) < 0
            · left
              refine ⟨-1, ev_succ ?_, .inl (by decide)⟩
              simp only [laws_szIntSS.l0, if_pos (ltc hi), if_pos (nnc i), laws_szIntS.f, if_pos q, Option.bind_some, show (-1 : Int) < 0 from by decide, if_true]
              exact Ev.now _
            · right
              have hw : wrap64 (s - ((rd_L2 F (i : Int)).length : Int)) = s - ((rd_L2 F (i : Int)).length : Int) := by
                rw [rdL hi]; exact wrap_small (by have := hs.1; omega) (by have := hs.2; omega)
              rw [hw] at q
              refine ⟨s - ((rd_L2 F (i : Int)).length : Int), ⟨by omega, ?_⟩, fun r hr => ev_succ ?_⟩
              · rw [sumLen_take hi, rdL hi]; have := hs.2; omega
              · simp only [laws_szIntSS.l0, if_pos (ltc hi), if_pos (nnc i), laws_szIntS.f, hw, if_neg q, Option.bind_some, succ_cast hi (by omega)]
                exact hr) F.length 0 (1048576 - (P.length : Int) - (F.length : Int)) (by omega) (by omega) ⟨by omega, by simp [sumLen]; omega⟩
        exact ⟨r, hr, hp.imp_right (fun hp => ⟨by omega, hp⟩)⟩
    obtain ⟨r, hr, hp⟩ := key
    by_cases q : r < 0
    · exact ⟨-1, Ev.bind hr (by simp only [if_pos q]; exact Ev.now _), .inl (by decide)⟩
    · exact ⟨r, Ev.bind hr (by simp only [if_neg q]; exact Ev.now _), .inr ⟨by omega, hp.resolve_left q⟩⟩
theorem mark_spots (l : List S54) (a : Int) (hl : l.length ≤ 1048576) (a0 : 0 ≤ a) (a1 : a ≤ 4611686018427387904) : ∃ r : Int × List S54, Ev (fun k => laws_markSpot2S.f k l a) r ∧ r.1 = a + 2 * (l.length : Int) := by
  unfold laws_markSpot2S.f
  obtain ⟨r, hr, hp⟩ := Ev_up (fun k (i : Nat) (s : List S54 × Int) => laws_markSpot2S.l0 k s.1 s.2 (i : Int)) l.length (fun i s => s.1.length = l.length ∧ s.2 = a + 2 * (i : Int)) (fun r => r.1 = a + 2 * (l.length : Int))
    (fun s hs => ⟨(s.2, s.1), ev_succ (by simp only [laws_markSpot2S.l0, if_neg (show ¬ (l.length : Int) < (s.1.length : Int) by have := hs.1; omega)]; exact Ev.now _), hs.2⟩)
    (fun i s hi hs => by
      right
      obtain ⟨x0, x1⟩ := s
      obtain ⟨h1, h2⟩ := hs
      dsimp only at h1 h2
      have w1 : wrap64 (x1 + 1) = x1 + 1 := wrap_small (by omega) (by omega)
      have w2 : wrap64 (x1 + 1 + 1) = x1 + 1 + 1 := wrap_small (by omega) (by omega)
      refine ⟨((x0.set i (⟨x1, (rd_T54 x0 (i : Int)).f1⟩ : S54)).set i (⟨(rd_T54 (x0.set i (⟨x1, (rd_T54 x0 (i : Int)).f1⟩ : S54)) (i : Int)).f0, x1 + 1⟩ : S54), x1 + 1 + 1), ⟨by simp [h1], by dsimp only; omega⟩, fun r hr => ev_succ ?_⟩
      simp only [laws_markSpot2S.l0, if_pos (show (i : Int) < (x0.length : Int) by omega), List.length_set, if_pos (nnc i), toNat_cast, Option.bind_some, succ_cast hi (by omega), w1, w2]
      exact hr) l.length 0 (l, a) (by omega) (by omega) ⟨rfl, by dsimp only; omega⟩
  exact ⟨r, hr, hp⟩
theorem mark_rows (l : List (List Int)) (a : Int) (hl : l.length ≤ 1048576) (h2 : ∀ x ∈ l, x.length ≤ 17592186043904) (hs : sumLen l ≤ 1048576) (a0 : 0 ≤ a) (a1 : a ≤ 4611686018426339328) : ∃ r : Int × List (List Int), Ev (fun k => laws_markIntSS.f k l a) r ∧ r.1 = a + (sumLen l : Int) := by
  unfold laws_markIntSS.f
  have hle : ∀ i : Nat, sumLen (l.take i) ≤ sumLen l := fun i => by
    have h := sumLen_append (l.take i) (l.drop i)
    rw [List.take_append_drop] at h
    omega
  obtain ⟨r, hr, hp⟩ := Ev_up (fun k (i : Nat) (s : List (List Int) × Int) => laws_markIntSS.l0 k s.1 s.2 (i : Int)) l.length (fun i s => s.1.length = l.length ∧ (∀ j : Nat, i ≤ j → s.1[j]? = l[j]?) ∧ s.2 = a + (sumLen (l.take i) : Int)) (fun r => r.1 = a + (sumLen l : Int))
    (fun s hs => ⟨(s.2, s.1), ev_succ (by simp only [laws_markIntSS.l0, if_neg (show ¬ (l.length : Int) < (s.1.length : Int) by have := hs.1; omega)]; exact Ev.now _), by have := hs.2.2; rw [List.take_length] at this; exact this⟩)
    (fun i s hi hs => by
      right
      obtain ⟨x0, x1⟩ := s
      obtain ⟨h1, h3, h4⟩ := hs
      dsimp only at h1 h3 h4
      have hg : x0.getD i ([] : List Int) = l[i] := by rw [List.getD_eq_getElem?_getD, h3 i (Nat.le_refl _), List.getElem?_eq_getElem hi, Option.getD_some]
      have hb := hle i
      obtain ⟨t, ht, t1, _⟩ := mark_ints l[i] x1 (h2 _ (List.getElem_mem hi)) (by omega) (by omega)
      refine ⟨(x0.set i t.2, t.1), ⟨by rw [List.length_set]; exact h1, fun j hj => by dsimp only; rw [List.getElem?_set_ne (by omega)]; exact h3 j (by omega), by dsimp only; rw [sumLen_take hi]; omega⟩, fun r hr => ev_succ ?_⟩
      simp only [laws_markIntSS.l0, if_pos (show (i : Int) < (x0.length : Int) by omega), if_pos (nnc i), toNat_cast, hg, succ_cast hi (by omega)]
      exact Ev.bind ht hr) l.length 0 (l, a) (by omega) (by omega) ⟨rfl, fun j _ => rfl, by simp [sumLen]⟩
  exact ⟨r, hr, hp⟩
theorem mark_ground (P : List S54) (F : List (List Int)) (h0 : P.length ≤ 1048576) (h1 : F.length ≤ 1048576) (h2 : ∀ x ∈ F, x.length ≤ 17592186043904) (h3 : sumLen F ≤ 1048576) : ∃ m, Ev (fun k => laws_markGround.f k P F 1) m ∧ ¬ m < 0 := by
  unfold laws_markGround.f
  obtain ⟨r, hr, r1⟩ := mark_spots P 1 h0 (by omega) (by omega)
  obtain ⟨s, hs, s1⟩ := mark_rows F r.1 h1 h2 h3 (by omega) (by omega)
  exact ⟨s.1, Ev.bind hr (Ev.bind hs (Ev.now _)), by omega⟩
/-! #### marks in rows of whole numbers -/
theorem mark_rows_val (l : List (List Int)) (a : Int) (hl : l.length ≤ 1048576) (h2 : ∀ x ∈ l, x.length ≤ 17592186043904) (hs : sumLen l ≤ 1048576) (a0 : 0 ≤ a) (a1 : a ≤ 4611686018426339328) :
    ∃ r : Int × List (List Int), Ev (fun k => laws_markIntSS.f k l a) r ∧ r.1 = a + (sumLen l : Int) ∧ r.2.length = l.length ∧ ∀ j (hj : j < l.length), ∃ row, r.2[j]? = some row ∧ row.length = l[j].length ∧ ∀ q : Nat, q < row.length → row[q]? = some (a + (sumLen (l.take j) : Int) + (q : Int)) := by
  unfold laws_markIntSS.f
  have hle : ∀ i : Nat, sumLen (l.take i) ≤ sumLen l := fun i => by
    have h := sumLen_append (l.take i) (l.drop i)
    rw [List.take_append_drop] at h
    omega
  obtain ⟨r, hr, hp⟩ := Ev_up (fun k (i : Nat) (s : List (List Int) × Int) => laws_markIntSS.l0 k s.1 s.2 (i : Int)) l.length (fun i s => s.1.length = l.length ∧ (∀ j : Nat, i ≤ j → s.1[j]? = l[j]?) ∧ s.2 = a + (sumLen (l.take i) : Int) ∧ ∀ j (hj : j < l.length), j < i → ∃ row, s.1[j]? = some row ∧ row.length = l[j].length ∧ ∀ q : Nat, q < row.length → row[q]? = some (a + (sumLen (l.take j) : Int) + (q : Int)))
      (fun r => r.1 = a + (sumLen l : Int) ∧ r.2.length = l.length ∧ ∀ j (hj : j < l.length), ∃ row, r.2[j]? = some row ∧ row.length = l[j].length ∧ ∀ q : Nat, q < row.length → row[q]? = some (a + (sumLen (l.take j) : Int) + (q : Int)))
    (fun s hs => ⟨(s.2, s.1), ev_succ (by simp only [laws_markIntSS.l0, if_neg (show ¬ (l.length : Int) < (s.1.length : Int) by have := hs.1; omega)]; exact Ev.now _), by have := hs.2.2.1; rw [List.take_length] at this; exact this, hs.1, fun j hj => hs.2.2.2 j hj hj⟩)
    (fun i s hi hs => by
      right
      obtain ⟨x0, x1⟩ := s
      obtain ⟨h1, h3, h4, h5⟩ := hs
      dsimp only at h1 h3 h4 h5
      have hg : x0.getD i ([] : List Int) = l[i] := by rw [List.getD_eq_getElem?_getD, h3 i (Nat.le_refl _), List.getElem?_eq_getElem hi, Option.getD_some]
      have hb := hle i
      obtain ⟨t, ht, t1, t2, t3⟩ := mark_ints l[i] x1 (h2 _ (List.getElem_mem hi)) (by omega) (by omega)
      refine ⟨(x0.set i t.2, t.1), ⟨by rw [List.length_set]; exact h1, fun j hj => by dsimp only; rw [List.getElem?_set_ne (by omega)]; exact h3 j (by omega), by dsimp only; rw [sumLen_take hi]; omega, fun j hj hji => ?_⟩, fun r hr => ev_succ ?_⟩
      · dsimp only
        by_cases e : j = i
        · subst e
          exact ⟨t.2, by rw [List.getElem?_set_self (by omega)], t2, fun q hq => by rw [t3 q (by omega), h4]⟩
        · rw [List.getElem?_set_ne (fun h => e h.symm)]
          exact h5 j hj (by omega)
      · simp only [laws_markIntSS.l0, if_pos (show (i : Int) < (x0.length : Int) by omega), if_pos (nnc i), toNat_cast, hg, succ_cast hi (by omega)]
        exact Ev.bind ht hr) l.length 0 (l, a) (by omega) (by omega) ⟨rfl, fun j _ => rfl, by simp [sumLen], fun j hj h => absurd h (Nat.not_lt_zero _)⟩
  exact ⟨r, hr, hp⟩
theorem held_rows (l m : List (List Int)) (a : Int) (hl : l.length ≤ 1048576) (h2 : ∀ x ∈ l, x.length ≤ 17592186043904) (hs : sumLen l ≤ 1048576) (a0 : 0 ≤ a) (a1 : a ≤ 4611686018426339328) (hm : m.length = l.length)
    (h : ∀ j (hj : j < l.length), ∃ row, m[j]? = some row ∧ row.length = l[j].length ∧ ∀ q : Nat, q < row.length → row[q]? = some (a + (sumLen (l.take j) : Int) + (q : Int))) : Ev (fun k => laws_heldIntSS.f k m a) (a + (sumLen l : Int)) := by
  unfold laws_heldIntSS.f
  have hle : ∀ i : Nat, sumLen (l.take i) ≤ sumLen l := fun i => by
    have h := sumLen_append (l.take i) (l.drop i)
    rw [List.take_append_drop] at h
    omega
  obtain ⟨r, hr, hp⟩ := Ev_up (fun k (i : Nat) (s : Int) => laws_heldIntSS.l0 k m s (i : Int)) m.length (fun i s => s = a + (sumLen (l.take i) : Int)) (fun r => r = a + (sumLen l : Int))
    (fun s hs => ⟨s, ev_succ (by simp only [laws_heldIntSS.l0, if_neg (no_lt m.length)]; exact Ev.now _), by rw [hs, hm, List.take_length]⟩)
    (fun i s hi hs => by
      right
      have hil : i < l.length := by omega
      obtain ⟨row, r1, r2, r3⟩ := h i hil
      have hrow : rd_L2 m (i : Int) = row := by
        rw [rdL hi]
        rw [List.getElem?_eq_getElem hi] at r1
        exact Option.some.inj r1
      have hx := h2 _ (List.getElem_mem hil)
      have hb := hle i
      have hh := held_ints row s (by omega) (by omega) (by omega) (fun j hj => by rw [r3 j hj, hs])
      refine ⟨s + (row.length : Int), by rw [sumLen_take hil, hs, r2]; omega, fun r hr => ev_succ ?_⟩
      simp only [laws_heldIntSS.l0, if_pos (ltc hi), if_pos (nnc i), hrow, succ_cast hi (by omega)]
      refine Ev.bind hh ?_
      simp only [if_neg (show ¬ s + (row.length : Int) < 0 by omega)]
      exact hr) m.length 0 a (by omega) (by omega) (by simp [sumLen])
  rw [hp] at hr
  exact hr
/-! #### ways of faces, and their doors -/
theorem head_door (f o : List Int) (h : hasDoor f o = true) : rd_L2 (((List.range f.length).filter (doorB f o)).map (doorAt f)) 0 = (doorV f o).1 := by
  unfold doorV
  cases hb : bad (fun k => !(doorB f o k)) f.length with
  | none =>
    unfold hasDoor allB at h
    rw [hb] at h
    cases h
  | some m =>
    have hf : ((List.range f.length).filter (doorB f o)).head? = some m := by
      rw [List.head?_filter]
      have e : (fun k => !(!(doorB f o k))) = doorB f o := by funext k; simp
      unfold bad at hb
      rw [← hb]
      congr 1
      exact e.symm
    cases hl : (List.range f.length).filter (doorB f o) with
    | nil => rw [hl] at hf; cases hf
    | cons x xs =>
      rw [hl] at hf
      obtain rfl : x = m := by simpa using hf
      rfl
theorem in_face {P : List S54} {F : List (List Int)} (hg : GoodG P F) {x : Int} (h : inB x 0 (wrap64 ((F.length : Int) - 1)) = true) : 0 ≤ x ∧ x < (F.length : Int) := by
  have hF := hg.hF
  rw [wrap_small (by omega) (by omega), inB_iff] at h
  omega
def prevI (i : Nat) : Int := ((i - 1 : Nat) : Int)
def okAt (F : List (List Int)) (l : List Int) (i : Nat) : Bool := inB (rd l (i : Int)) 0 (wrap64 ((F.length : Int) - 1)) && (newB l i && (decide (i = 0) || hasDoor (rd_L2 F (rd l (prevI i))) (rd_L2 F (rd l (i : Int)))))
def doorsTo (F : List (List Int)) (l : List Int) : Nat → List (List Int)
  | 0 => []
  | i + 1 => if i = 0 then [] else doorsTo F l i ++ [(doorV (rd_L2 F (rd l (prevI i))) (rd_L2 F (rd l (i : Int)))).1]
theorem doorsTo_len (F : List (List Int)) (l : List Int) (i : Nat) : (doorsTo F l i).length ≤ i := by
  induction i with
  | zero => simp [doorsTo]
  | succ i ih =>
    unfold doorsTo
    split
    · simp
    · rw [List.length_append, List.length_singleton]; omega
theorem doorV_len (f o : List Int) : (doorV f o).1.length ≤ 2 := by
  unfold doorV
  cases bad (fun k => !(doorB f o k)) f.length <;> simp [doorAt]
theorem doorsTo_rows (F : List (List Int)) (l : List Int) (i : Nat) : (∀ x ∈ doorsTo F l i, x.length ≤ 2) ∧ sumLen (doorsTo F l i) ≤ 2 * i := by
  induction i with
  | zero => exact ⟨fun x hx => by simp [doorsTo] at hx, by simp [doorsTo, sumLen]⟩
  | succ i ih =>
    unfold doorsTo
    split
    · exact ⟨fun x hx => by simp at hx, by simp [sumLen]⟩
    · have hd := doorV_len (rd_L2 F (rd l (prevI i))) (rd_L2 F (rd l (i : Int)))
      refine ⟨fun x hx => ?_, ?_⟩
      · rcases List.mem_append.1 hx with hx | hx
        · exact ih.1 x hx
        · obtain rfl := List.mem_singleton.1 hx
          exact hd
      · rw [sumLen_append]
        have := ih.2
        simp only [sumLen]
        omega
def waysB (P : List S54) (F : List (List Int)) (l : List Int) : Bool := groundB P F && (decide (1 ≤ l.length ∧ l.length ≤ 20) && allB l.length (okAt F l))
def waysV (P : List S54) (F : List (List Int)) (l : List Int) : List (List Int) × Bool := if waysB P F l = true then (doorsTo F l l.length, true) else ([], false)
theorem prev_wrap {i : Nat} (h : ¬ i = 0) (hi : i ≤ 1048576) : wrap64 ((i : Int) - 1) = prevI i := by
  unfold prevI
  rw [wrap_small (by omega) (by omega)]
  omega
/-- What a good way says of place i. -/
structure OkAt (P : List S54) (F : List (List Int)) (l : List Int) (i : Nat) : Prop where
  r : inB (rd l (i : Int)) 0 (wrap64 ((F.length : Int) - 1)) = true
  n : newB l i = true
  d : ¬ i = 0 → hasDoor (rd_L2 F (rd l (prevI i))) (rd_L2 F (rd l (i : Int))) = true
theorem okAt_iff (P : List S54) (F : List (List Int)) (l : List Int) (i : Nat) : okAt F l i = true ↔ OkAt P F l i := by
  unfold okAt
  rw [Bool.and_eq_true, Bool.and_eq_true, Bool.or_eq_true, decide_eq_true_eq]
  constructor
  · rintro ⟨h1, h2, h3⟩
    exact ⟨h1, h2, fun h => h3.resolve_left h⟩
  · rintro ⟨h1, h2, h3⟩
    exact ⟨h1, h2, (Classical.em (i = 0)).imp_right h3⟩
theorem prev_ok {P : List S54} {F : List (List Int)} (hg : GoodG P F) {l : List Int} {i : Nat} (h : ¬ i = 0) (hj : ∀ j, j < i → okAt F l j = true) : 0 ≤ rd l (prevI i) ∧ rd l (prevI i) < (F.length : Int) :=
  in_face hg ((okAt_iff P F l (i - 1)).1 (hj (i - 1) (by omega))).r
theorem impl_way {P : List S54} {F : List (List Int)} (hg : GoodG P F) (l : List Int) (hl : l.length ≤ 20) : Ev (fun k => impl_isWay.l0 k l l (l.length : Int) 0 P F) (allB l.length (okAt F l)) := by
  have h := ev_all (n := l.length) (fun k i => impl_isWay.l0 k l l (l.length : Int) i P F) (okAt F l) true ?_ ?_ ?_
  · rwa [Bool.and_true] at h
  · intro i hi hj hok b hb
    obtain ⟨o1, o2, o3⟩ := (okAt_iff P F l i).1 hok
    obtain ⟨r0, r1⟩ := in_face hg o1
    refine ev_succ ?_
    simp only [impl_isWay.l0, if_pos (ltc hi), if_pos (nnc i), impl_in, Option.bind_some, o1, if_true, if_pos (show (i : Int) ≤ (l.length : Int) by omega), toNat_cast]
    refine Ev.bind (impl_contains_take l (by omega) i hi) ?_
    simp only [o2, Bool.not_true, Bool.false_eq_true, if_false]
    by_cases e : i = 0
    · simp only [if_neg (show ¬ (i : Int) > 0 by omega), succ_cast hi (show l.length ≤ 9223372036854775806 by omega)]
      exact hb
    · obtain ⟨q0, q1⟩ := prev_ok hg e hj
      obtain ⟨x, hx⟩ := Int.eq_ofNat_of_zero_le q0
      obtain ⟨y, hy⟩ := Int.eq_ofNat_of_zero_le r0
      have hd := o3 e
      simp only [if_pos (show (i : Int) > 0 by omega), prev_wrap e (by omega), if_pos (show (0 : Int) ≤ prevI i from nnc _), if_pos (show prevI i < (l.length : Int) by unfold prevI; omega), if_pos q0, if_pos q1, if_pos r0, if_pos r1, succ_cast hi (show l.length ≤ 9223372036854775806 by omega)]
      have hf : ∀ z : Int, 0 ≤ z → z < (F.length : Int) → (rd_L2 F z).length ≤ 8 := fun z z0 z1 => by
        obtain ⟨m, rfl⟩ := Int.eq_ofNat_of_zero_le z0
        exact (hg.face m (by omega)).1
      refine Ev.bind (impl_doors_ _ _ (hf _ q0 q1) (hf _ r0 r1)) ?_
      rw [← doors_some, decide_eq_true_eq] at hd
      simp only [if_neg (show ¬ ((((List.range (rd_L2 F (rd l (prevI i))).length).filter (doorB (rd_L2 F (rd l (prevI i))) (rd_L2 F (rd l (i : Int))))).map (doorAt (rd_L2 F (rd l (prevI i))))).length : Int) = 0 by omega)]
      exact hb
  · intro i hi hj hno
    refine ev_succ ?_
    simp only [impl_isWay.l0, if_pos (ltc hi), if_pos (nnc i), impl_in, Option.bind_some]
    cases o1 : inB (rd l (i : Int)) 0 (wrap64 ((F.length : Int) - 1)) with
    | false => simp only [Bool.false_eq_true, if_false]; exact Ev.now _
    | true =>
      obtain ⟨r0, r1⟩ := in_face hg o1
      simp only [if_true, if_pos (show (i : Int) ≤ (l.length : Int) by omega), toNat_cast]
      refine Ev.bind (impl_contains_take l (by omega) i hi) ?_
      cases o2 : newB l i with
      | false => simp only [Bool.not_false, if_true]; exact Ev.now _
      | true =>
        simp only [Bool.not_true, Bool.false_eq_true, if_false]
        unfold okAt at hno
        rw [o1, o2, Bool.true_and, Bool.true_and, Bool.or_eq_false_iff, decide_eq_false_iff_not] at hno
        obtain ⟨e, hd⟩ := hno
        obtain ⟨q0, q1⟩ := prev_ok hg e hj
        simp only [if_pos (show (i : Int) > 0 by omega), prev_wrap e (by omega), if_pos (show (0 : Int) ≤ prevI i from nnc _), if_pos (show prevI i < (l.length : Int) by unfold prevI; omega), if_pos q0, if_pos q1, if_pos r0, if_pos r1]
        have hf : ∀ z : Int, 0 ≤ z → z < (F.length : Int) → (rd_L2 F z).length ≤ 8 := fun z z0 z1 => by
          obtain ⟨m, rfl⟩ := Int.eq_ofNat_of_zero_le z0
          exact (hg.face m (by omega)).1
        refine Ev.bind (impl_doors_ _ _ (hf _ q0 q1) (hf _ r0 r1)) ?_
        rw [← doors_some, decide_eq_false_iff_not] at hd
        simp only [if_pos (show ((((List.range (rd_L2 F (rd l (prevI i))).length).filter (doorB (rd_L2 F (rd l (prevI i))) (rd_L2 F (rd l (i : Int))))).map (doorAt (rd_L2 F (rd l (prevI i))))).length : Int) = 0 by omega)]
        exact Ev.now _
  · intro _
    refine ev_succ ?_
    simp only [impl_isWay.l0, if_neg (no_lt l.length)]
    exact Ev.now _
theorem impl_way_doors {P : List S54} {F : List (List Int)} (hg : GoodG P F) (l : List Int) (hl : l.length ≤ 20) (h1 : 1 ≤ l.length) (hok : ∀ i, i < l.length → okAt F l i = true) : Ev (fun k => impl_Ground_doorsOf.f k P F l) (doorsTo F l l.length) := by
  unfold impl_Ground_doorsOf.f
  have main : ∀ d i, l.length - i = d → 1 ≤ i → i ≤ l.length → Ev (fun k => impl_Ground_doorsOf.l0 k l (doorsTo F l i) (i : Int) P F) (doorsTo F l l.length) := by
    intro d
    induction d with
    | zero =>
      intro i hd hi hi2
      obtain rfl : i = l.length := by omega
      refine ev_succ ?_
      simp only [impl_Ground_doorsOf.l0, if_neg (no_lt l.length)]
      exact Ev.now _
    | succ d ih =>
      intro i hd hi hi2
      have hil : i < l.length := by omega
      have e : ¬ i = 0 := by omega
      have h := ih (i + 1) (by omega) (by omega) (by omega)
      obtain ⟨o1, o2, o3⟩ := (okAt_iff P F l i).1 (hok i hil)
      obtain ⟨r0, r1⟩ := in_face hg o1
      obtain ⟨q0, q1⟩ := prev_ok hg e (fun j hj => hok j (by omega))
      have hdl := doorsTo_len F l i
      have hf : ∀ z : Int, 0 ≤ z → z < (F.length : Int) → (rd_L2 F z).length ≤ 8 := fun z z0 z1 => by
        obtain ⟨m, rfl⟩ := Int.eq_ofNat_of_zero_le z0
        exact (hg.face m (by omega)).1
      refine ev_succ ?_
      simp only [impl_Ground_doorsOf.l0, if_pos (ltc hil), prev_wrap e (by omega), if_pos (show (0 : Int) ≤ prevI i from nnc _), if_pos (show prevI i < (l.length : Int) by unfold prevI; omega), if_pos q0, if_pos q1, if_pos (nnc i), if_pos r0, if_pos r1]
      refine Ev.bind (impl_doors_ _ _ (hf _ q0 q1) (hf _ r0 r1)) ?_
      have hd := o3 e
      rw [← doors_some, decide_eq_true_eq] at hd
      simp only [if_pos (show (0 : Int) < ((((List.range (rd_L2 F (rd l (prevI i))).length).filter (doorB (rd_L2 F (rd l (prevI i))) (rd_L2 F (rd l (i : Int))))).map (doorAt (rd_L2 F (rd l (prevI i))))).length : Int) by omega), if_pos (show (doorsTo F l i).length < 5864062014805 by omega), head_door _ _ (o3 e), succ_cast hil (show l.length ≤ 9223372036854775806 by omega)]
      have ed : doorsTo F l (i + 1) = doorsTo F l i ++ [(doorV (rd_L2 F (rd l (prevI i))) (rd_L2 F (rd l (i : Int)))).1] := by
        show (if i = 0 then [] else _) = _
        rw [if_neg e]
      rw [ed] at h
      exact h
  have h := main (l.length - 1) 1 rfl (Nat.le_refl _) h1
  exact h
theorem impl_waysV (P : List S54) (F : List (List Int)) (l : List Int) (hr : ∀ x ∈ F, x.length ≤ 17592186043904) (hl : l.length ≤ 1048576) : Ev (fun k => impl_DoorsOf.f k P F l) (waysV P F l) := by
  have hway : Ev (fun k => impl_isWay.f k P F l) (waysB P F l) := by
    unfold impl_isWay.f waysB
    refine Ev.bind (impl_ground P F hr) ?_
    cases hG : groundB P F with
    | false =>
      simp only [Bool.false_eq_true, if_false, Bool.false_and]
      exact ev_succ (by simp only [impl_isWay.j0, if_true]; exact Ev.now _)
    | true =>
      simp only [if_true, impl_in, Option.bind_some, Bool.true_and]
      have hin : inB (l.length : Int) 1 20 = decide (1 ≤ l.length ∧ l.length ≤ 20) := by
        unfold inB
        rw [Bool.eq_iff_iff, decide_eq_true_eq, decide_eq_true_eq]
        omega
      rw [hin]
      cases hd : decide (1 ≤ l.length ∧ l.length ≤ 20) with
      | false =>
        simp only [Bool.false_and]
        exact ev_succ (by simp only [impl_isWay.j0, Bool.not_false, if_true]; exact Ev.now _)
      | true =>
        rw [decide_eq_true_eq] at hd
        simp only [Bool.true_and]
        exact ev_succ (by simp only [impl_isWay.j0, Bool.not_true, Bool.false_eq_true, if_false]; exact impl_way (good_of hG) l hd.2)
  unfold impl_DoorsOf.f waysV
  refine Ev.bind hway ?_
  cases hb : waysB P F l with
  | false => simp only [Bool.false_eq_true, if_false]; exact Ev.now _
  | true =>
    simp only [if_true]
    unfold waysB at hb
    rw [Bool.and_eq_true, Bool.and_eq_true, decide_eq_true_eq, allB_iff] at hb
    exact Ev.bind (impl_way_doors (good_of hb.1) l hb.2.1.2 hb.2.1.1 hb.2.2) (Ev.now _)
theorem spec_ways {P : List S54} {F : List (List Int)} (hg : GoodG P F) (l : List Int) (hl : l.length ≤ 20) : Ev (fun k => spec_l8Doors.l0 k l ([] : List (List Int)) l (l.length : Int) 0 P F) (if allB l.length (okAt F l) = true then (doorsTo F l l.length, true) else ([], false)) := by
  -- one place: the inner loop, then the door
  have scan : ∀ (i : Nat) (acc : List (List Int)) (b : List (List Int) × Bool), i < l.length → newB l i = true →
      Ev (fun k => if (i : Int) > 0 then (if 0 ≤ (wrap64 ((i : Int) - 1)) then (if (wrap64 ((i : Int) - 1)) < (l.length : Int) then ((spec_l8Door.f k P F (rd l (wrap64 ((i : Int) - 1))) (rd l (i : Int))).bind fun bt211 => (if bt211.2 = true then (if acc.length < 5864062014805 then (spec_l8Doors.l0 k l (acc ++ [bt211.1]) l (l.length : Int) (wrap64 ((i : Int) + 1)) P F) else (none)) else (some (([] : List (List Int)), false)))) else (none)) else (none)) else (spec_l8Doors.l0 k l acc l (l.length : Int) (wrap64 ((i : Int) + 1)) P F)) b →
      Ev (fun k => spec_l8Doors.l1 k l acc (i : Int) (rd l (i : Int)) l (l.length : Int) (i : Int) (l.take i) ((l.take i).length : Int) 0 P F) b := by
    intro i acc b hi hn hb
    have hlen : (l.take i).length = i := by rw [List.length_take]; omega
    unfold newB at hn
    rw [allB_iff] at hn
    have h := ev_scan (n := (l.take i).length) (fun k m => spec_l8Doors.l1 k l acc (i : Int) (rd l (i : Int)) l (l.length : Int) (i : Int) (l.take i) ((l.take i).length : Int) m P F) (fun _ => true) (fun _ => ([], false)) b ?_ ?_ ?_
    · rwa [show bad (fun _ : Nat => true) (l.take i).length = none from bad_none.2 (fun _ _ => rfl)] at h
    · intro m hm _ _ c hc
      refine ev_succ ?_
      have hne : ¬ rd (l.take i) (m : Int) = rd l (i : Int) := by
        rw [rd_take (show m < i by omega)]
        have h1 := hn m (by omega)
        intro e
        rw [e] at h1
        simp at h1
      simp only [spec_l8Doors.l1, if_pos (ltc hm), if_pos (nnc m), if_neg hne, succ_cast hm (show (l.take i).length ≤ 9223372036854775806 by omega)]
      exact hc
    · intro m hm _ hg; cases hg
    · intro _
      refine ev_succ ?_
      simp only [spec_l8Doors.l1, if_neg (no_lt (l.take i).length)]
      exact hb
  have dup : ∀ (i : Nat) (acc : List (List Int)), i < l.length → newB l i = false → Ev (fun k => spec_l8Doors.l1 k l acc (i : Int) (rd l (i : Int)) l (l.length : Int) (i : Int) (l.take i) ((l.take i).length : Int) 0 P F) ([], false) := by
    intro i acc hi hn
    have hlen : (l.take i).length = i := by rw [List.length_take]; omega
    have h := ev_scan (n := (l.take i).length) (fun k m => spec_l8Doors.l1 k l acc (i : Int) (rd l (i : Int)) l (l.length : Int) (i : Int) (l.take i) ((l.take i).length : Int) m P F) (fun m => !decide (rd (l.take i) (m : Int) = rd l (i : Int))) (fun _ => ([], false)) ([], false) ?_ ?_ ?_
    · cases hb : bad (fun m => !decide (rd (l.take i) (m : Int) = rd l (i : Int))) (l.take i).length with
      | none => rw [hb] at h; exact h
      | some m => rw [hb] at h; exact h
    · intro m hm _ hg2 c hc
      refine ev_succ ?_
      have hne : ¬ rd (l.take i) (m : Int) = rd l (i : Int) := by simpa using hg2
      simp only [spec_l8Doors.l1, if_pos (ltc hm), if_pos (nnc m), if_neg hne, succ_cast hm (show (l.take i).length ≤ 9223372036854775806 by omega)]
      exact hc
    · intro m hm _ hg2
      refine ev_succ ?_
      have he : rd (l.take i) (m : Int) = rd l (i : Int) := by simpa using hg2
      simp only [spec_l8Doors.l1, if_pos (ltc hm), if_pos (nnc m), if_pos he]
      exact Ev.now _
    · intro hall
      exfalso
      unfold newB at hn
      obtain ⟨j, hj, h1⟩ := allB_not.1 hn
      have h2 := hall j (by omega)
      rw [rd_take hj] at h2
      have h3 : rd l (i : Int) = rd l (j : Int) := by simpa using h1
      rw [h3] at h2
      simp at h2
  have h := ev_scan (n := l.length) (fun k i => spec_l8Doors.l0 k l (doorsTo F l i.toNat) l (l.length : Int) i P F) (okAt F l) (fun _ => ([], false)) (doorsTo F l l.length, true) ?_ ?_ ?_
  · unfold allB
    cases hb : bad (okAt F l) l.length with
    | none => rw [hb] at h; simpa [doorsTo] using h
    | some m => rw [hb] at h; simpa [doorsTo] using h
  · intro i hi hj hok b hb
    obtain ⟨o1, o2, o3⟩ := (okAt_iff P F l i).1 hok
    obtain ⟨r0, r1⟩ := in_face hg o1
    have hdl := doorsTo_len F l i
    refine ev_succ ?_
    simp only [toNat_cast] at hb ⊢
    simp only [spec_l8Doors.l0, if_pos (ltc hi), if_pos (nnc i), spec_in, Option.bind_some, o1, if_true, if_pos (show (i : Int) ≤ (l.length : Int) by omega), toNat_cast]
    refine scan i _ b hi o2 ?_
    rw [succ_cast hi (show l.length ≤ 9223372036854775806 by omega)]
    by_cases e : i = 0
    · subst e
      simp only [if_neg (show ¬ ((0 : Nat) : Int) > 0 by decide)]
      exact hb
    · obtain ⟨q0, q1⟩ := prev_ok hg e hj
      simp only [if_pos (show (i : Int) > 0 by omega), prev_wrap e (by omega), if_pos (show (0 : Int) ≤ prevI i from nnc _), if_pos (show prevI i < (l.length : Int) by unfold prevI; omega)]
      obtain ⟨x, hx⟩ := Int.eq_ofNat_of_zero_le q0
      obtain ⟨y, hy⟩ := Int.eq_ofNat_of_zero_le r0
      have hd := spec_door hg x y (by omega) (by omega)
      rw [← hx, ← hy] at hd
      refine Ev.bind hd ?_
      rw [doorV_has]
      simp only [o3 e, if_true, if_pos (show (doorsTo F l i).length < 5864062014805 by omega)]
      have ed : doorsTo F l (i + 1) = doorsTo F l i ++ [(doorV (rd_L2 F (rd l (prevI i))) (rd_L2 F (rd l (i : Int)))).1] := by
        show (if i = 0 then [] else _) = _
        rw [if_neg e]
      rw [ed] at hb
      exact hb
  · intro i hi hj hno
    have hdl := doorsTo_len F l i
    refine ev_succ ?_
    simp only [toNat_cast]
    simp only [spec_l8Doors.l0, if_pos (ltc hi), if_pos (nnc i), spec_in, Option.bind_some]
    cases o1 : inB (rd l (i : Int)) 0 (wrap64 ((F.length : Int) - 1)) with
    | false => simp only [Bool.false_eq_true, if_false]; exact Ev.now _
    | true =>
      obtain ⟨r0, r1⟩ := in_face hg o1
      simp only [if_true, if_pos (show (i : Int) ≤ (l.length : Int) by omega), toNat_cast]
      cases o2 : newB l i with
      | false => exact dup i _ hi o2
      | true =>
        refine scan i _ _ hi o2 ?_
        unfold okAt at hno
        rw [o1, o2, Bool.true_and, Bool.true_and, Bool.or_eq_false_iff, decide_eq_false_iff_not] at hno
        obtain ⟨e, hd0⟩ := hno
        obtain ⟨q0, q1⟩ := prev_ok hg e hj
        simp only [if_pos (show (i : Int) > 0 by omega), prev_wrap e (by omega), if_pos (show (0 : Int) ≤ prevI i from nnc _), if_pos (show prevI i < (l.length : Int) by unfold prevI; omega)]
        obtain ⟨x, hx⟩ := Int.eq_ofNat_of_zero_le q0
        obtain ⟨y, hy⟩ := Int.eq_ofNat_of_zero_le r0
        have hd := spec_door hg x y (by omega) (by omega)
        rw [← hx, ← hy] at hd
        refine Ev.bind hd ?_
        rw [doorV_has, hd0]
        simp only [Bool.false_eq_true, if_false]
        exact Ev.now _
  · intro _
    refine ev_succ ?_
    simp only [toNat_cast]
    simp only [spec_l8Doors.l0, if_neg (no_lt l.length)]
    exact Ev.now _
theorem spec_waysV (P : List S54) (F : List (List Int)) (l : List Int) (hr : ∀ x ∈ F, x.length ≤ 17592186043904) (hl : l.length ≤ 1048576) : Ev (fun k => spec_DoorsOf.f k P F l) (waysV P F l) := by
  have key : Ev (fun k => spec_l8Doors.f k P F l) (waysV P F l) := by
    unfold spec_l8Doors.f waysV waysB
    refine Ev.bind (spec_ground P F hr) ?_
    have no : ∀ x : Bool, x = true → Ev (fun k => spec_l8Doors.j0 k l x P F) ([], false) := fun x hx => ev_succ (by simp only [spec_l8Doors.j0, hx, if_true]; exact Ev.now _)
    cases hG : groundB P F with
    | false => simp only [Bool.false_eq_true, if_false, Bool.false_and]; exact no _ rfl
    | true =>
      simp only [if_true, Bool.true_and]
      by_cases h1 : (l.length : Int) < 1
      · rw [decide_eq_false (show ¬ (1 ≤ l.length ∧ l.length ≤ 20) by omega)]
        simp only [if_pos h1, Bool.false_and, Bool.false_eq_true, if_false]
        exact no _ rfl
      · simp only [if_neg h1]
        by_cases h2 : l.length ≤ 20
        · rw [decide_eq_true (show 1 ≤ l.length ∧ l.length ≤ 20 by omega), decide_eq_false (show ¬ (l.length : Int) > 20 by omega)]
          simp only [Bool.true_and]
          exact ev_succ (by simp only [spec_l8Doors.j0, Bool.false_eq_true, if_false]; exact spec_ways (good_of hG) l h2)
        · rw [decide_eq_false (show ¬ (1 ≤ l.length ∧ l.length ≤ 20) by omega), decide_eq_true (show (l.length : Int) > 20 by omega)]
          simp only [Bool.false_and, Bool.false_eq_true, if_false]
          exact no _ rfl
  unfold spec_DoorsOf.f
  exact Ev.bind key (Ev.now _)
theorem waysV_rows (P : List S54) (F : List (List Int)) (l : List Int) : (waysV P F l).1.length ≤ 20 ∧ (∀ x ∈ (waysV P F l).1, x.length ≤ 2) ∧ sumLen (waysV P F l).1 ≤ 40 := by
  unfold waysV
  split
  · rename_i h
    unfold waysB at h
    rw [Bool.and_eq_true, Bool.and_eq_true, decide_eq_true_eq] at h
    have h1 := doorsTo_len F l l.length
    have h2 := doorsTo_rows F l l.length
    exact ⟨by dsimp only; omega, h2.1, by dsimp only; omega⟩
  · exact ⟨by simp, fun x hx => by simp at hx, by simp [sumLen]⟩
theorem FnExactDoorsOf : laws_FnExactDoorsOf_Pure := by
  intro P F l hP hF hl
  have p1 : P.length ≤ 8796093021952 := by omega
  have f1 : F.length ≤ 5864062014635 := by omega
  have f2 : ∀ x ∈ F, x.length ≤ 17592186043904 := fun x hx => by have := (hF.2.2 x hx).2.1; omega
  have l1 : l.length ≤ 17592186043904 := by omega
  apply Ev.rounds (r := true)
  unfold laws_FnExactDoorsOf.f
  by_cases hx : (1048576 : Int) < (l.length : Int)
  · simp only [if_pos hx]
    exact Ev.now true
  simp only [if_neg hx]
  obtain ⟨v, hv, hle⟩ := sz_ground_le P F p1 f1 f2
  refine Ev.bind hv ?_
  by_cases h : v < 0
  · simp only [if_pos h]
    exact Ev.now true
  · obtain ⟨l0, l1', l2⟩ := hle.resolve_left h
    simp only [if_neg h]
    have q0 : (P.map spotOf).length ≤ 1048576 := by rw [List.length_map]; exact l0
    obtain ⟨r0, r1, r2⟩ := waysV_rows (P.map spotOf) F l
    refine Ev.bind (to_ground P F p1 f1 f2) (Ev.bind (to_ints l l1) (Ev.bind (spec_waysV _ F l f2 (by omega)) (Ev.bind (impl_waysV _ F l f2 (by omega)) ?_)))
    generalize waysV (P.map spotOf) F l = t at r0 r1 r2
    have t2 : ∀ x ∈ t.1, x.length ≤ 17592186043904 := fun x hx => by have := r1 x hx; omega
    obtain ⟨m, hm, m0⟩ : ∃ m, Ev (fun k => laws_markGround.f k (P.map spotOf) F 1) m ∧ 0 ≤ m ∧ m ≤ 4194304 := by
      unfold laws_markGround.f
      obtain ⟨r, hr, r1⟩ := mark_spots (P.map spotOf) 1 q0 (by omega) (by omega)
      obtain ⟨s, hs, s1⟩ := mark_rows F r.1 l1' f2 l2 (by omega) (by omega)
      exact ⟨s.1, Ev.bind hr (Ev.bind hs (Ev.now _)), by omega, by omega⟩
    obtain ⟨p, hp, p1', p2, p3⟩ := mark_ints l m l1 m0.1 (by omega)
    obtain ⟨n, hn, n1, n2, n3⟩ := mark_rows_val t.1 1 (by omega) t2 (by omega) (by omega) (by omega)
    have hh := held_rows t.1 n.2 1 (by omega) t2 (by omega) (by omega) (by omega) n2 n3
    rw [← n1] at hh
    refine Ev.bind (eq_rows t.1 (by omega) t2) (Ev.bind (eq_ground _ _ (by rw [List.length_map]; exact p1) f1 f2) (Ev.bind (eq_ints l l1) (Ev.bind hm (Ev.bind hp (Ev.bind hn (Ev.bind hh ?_))))))
    rw [if_pos ⟨rfl, rfl, rfl, rfl, by omega, rfl, by omega⟩]
    exact Ev.now true
end Go.Proofs.Ytnfcpbajngccoaa.Pure
