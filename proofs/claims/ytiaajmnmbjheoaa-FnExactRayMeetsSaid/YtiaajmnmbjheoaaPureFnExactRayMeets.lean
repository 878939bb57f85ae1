/- The program's RayMeets and the reference's answer alike at every shapes and ray. No condition. -/
import Derived.Test.YtiaajmnmbjheoaaPFnExactRayMeetsx9
namespace Go.Proofs.Ytiaajmnmbjheoaa.Pure
open Go.RowKit Go.Proofs.Ytiaajmnmbjheoaa.PFnExactRayMeets Go.Proofs.YtiaajmnmbjheoaaW.PrintWords Go.Proofs.YtiaajmnmbjheoaaW.PrintLast Go.Proofs.YtiaajmnmbjheoaaW.PrintMore
set_option linter.unusedVariables false
set_option linter.unusedSimpArgs false
/-- What can be read as a datum of type 111. -/
def Good111 (x : S111) : Prop := (Lit.int .i64 x.f0).wf = true ∧ (Lit.int .i64 x.f1).wf = true ∧ (Lit.int .i64 x.f2).wf = true ∧ (Lit.int .i64 x.f3).wf = true ∧ (Lit.int .i64 x.f4).wf = true
/-- The one pure statement. -/
def laws_FnExactRayMeets_Pure : Prop := ∀ (l0 : (List S111)) (a1 : Int) (a2 : Int) (a3 : Int) (a4 : Int), (List.length l0 ≤ maxLen ∧ List.length l0 * 40 ≤ 140737488351232 ∧ ∀ y ∈ l0, Good111 y) → (Lit.int .i64 a1).wf = true → (Lit.int .i64 a2).wf = true → (Lit.int .i64 a3).wf = true → (Lit.int .i64 a4).wf = true → ∃ k, laws_FnExactRayMeets.f k l0 a1 a2 a3 a4 = some true
/-! #### whole numbers: wraps, quotients towards nought -/
theorem wrap_small {i : Int} (h0 : -9223372036854775808 ≤ i) (h1 : i ≤ 9223372036854775807) : wrap64 i = i := by unfold wrap64; omega
theorem tdiv_pos {a b : Int} (ha : 0 ≤ a) : Int.tdiv a b = a / b := Int.tdiv_eq_ediv_of_nonneg ha
theorem tmod_pos {a b : Int} (ha : 0 ≤ a) : Int.tmod a b = a % b := Int.tmod_eq_emod_of_nonneg ha
theorem tdiv_neg' {a b : Int} (ha : a < 0) : Int.tdiv a b = -((-a) / b) := by
  rw [← Int.tdiv_eq_ediv_of_nonneg (a := -a) (by omega), Int.neg_tdiv, Int.neg_neg]
theorem tmod_neg' {a b : Int} (ha : a < 0) : Int.tmod a b = -((-a) % b) := by
  rw [← Int.tmod_eq_emod_of_nonneg (a := -a) (by omega), Int.neg_tmod, Int.neg_neg]
theorem wf64 {a : Int} (h : (Lit.int .i64 a).wf = true) : -9223372036854775808 ≤ a ∧ a ≤ 9223372036854775807 := by
  simp [Lit.wf, IntKind.min, IntKind.max, IntKind.signed, IntKind.bits] at h
  omega
theorem ev_succ {α : Type} {g : Nat → Option α} {r : α} (h : Ev (fun k => g (k + 1)) r) : Ev g r := Ev.step (f := fun k => g (k + 1)) (fun _ => rfl) h
theorem ev_eq {α : Type} {g : Nat → Option α} {r : α} (h : ∀ k, g k = some r) : Ev g r := ⟨0, fun k _ => h k⟩
theorem ev_val {α : Type} {g : Nat → Option α} {r r' : α} (h : Ev g r) (e : r = r') : Ev g r' := e ▸ h
/-! #### is a number in a span -/
def inB (a b c : Int) : Bool := decide (b ≤ a ∧ a ≤ c)
theorem inB_iff {a b c : Int} : inB a b c = true ↔ b ≤ a ∧ a ≤ c := by unfold inB; rw [decide_eq_true_eq]
theorem spec_in (a b c : Int) : spec_l1In.f a b c = some (inB a b c) := by
  unfold spec_l1In.f inB
  by_cases h : a ≥ b
  · rw [if_pos h]; congr 1; rw [decide_eq_decide]; omega
  · rw [if_neg h]; congr 1; exact (decide_eq_false (by omega)).symm
theorem impl_in (a b c : Int) : impl_inRange.f a b c = some (inB a b c) := by
  unfold impl_inRange.f inB
  by_cases h : b ≤ a
  · rw [if_pos h]; congr 1; rw [decide_eq_decide]; omega
  · rw [if_neg h]; congr 1; exact (decide_eq_false (by omega)).symm
/-! #### loops that go up, from a place on -/
theorem Ev_up {σ ρ : Type} (g : Nat → Nat → σ → Option ρ) (n : Nat) (Inv : Nat → σ → Prop) (Post : ρ → Prop)
    (hend : ∀ s, Inv n s → ∃ r, Ev (fun k => g k n s) r ∧ Post r)
    (hstep : ∀ i s, i < n → Inv i s → (∃ r, Ev (fun k => g k i s) r ∧ Post r) ∨ (∃ s', Inv (i + 1) s' ∧ ∀ r, Ev (fun k => g k (i + 1) s') r → Ev (fun k => g k i s) r))
    (d : Nat) : ∀ i s, n - i = d → i ≤ n → Inv i s → ∃ r, Ev (fun k => g k i s) r ∧ Post r := by
  induction d with
  | zero =>
    intro i s hd hi hs
    obtain rfl : i = n := by omega
    exact hend s hs
  | succ d ih =>
    intro i s hd hi hs
    rcases hstep i s (by omega) hs with h | ⟨s', hs', hg⟩
    · exact h
    · obtain ⟨r, hr, hp⟩ := ih (i + 1) s' (by omega) (by omega) hs'
      exact ⟨r, hg r hr, hp⟩
theorem succ_cast {i n : Nat} (h : i < n) (hn : n ≤ 9223372036854775806) : wrap64 ((i : Int) + 1) = ((i + 1 : Nat) : Int) := by
  rw [wrap_small (by omega) (by omega)]; omega
theorem drop_cons {α : Type} {l : List α} {i : Nat} (h : i < l.length) : l.drop i = l[i] :: l.drop (i + 1) := List.drop_eq_getElem_cons h
theorem rd_at {l : List Int} {i : Nat} (h : i < l.length) : rd l (i : Int) = l[i] := by simp [rd, h]
/-! #### loops that copy and loops that compare -/
theorem set_step {α β : Type} (g : α → β) (z : β) (l : List α) (i : Nat) (hi : i < l.length) : ((l.take i).map g ++ List.replicate (l.length - i) z).set i (g l[i]) = (l.take (i + 1)).map g ++ List.replicate (l.length - (i + 1)) z := by
  have e : l.length - i = (l.length - (i + 1)) + 1 := by omega
  have hl : ((l.take i).map g).length = i := by rw [List.length_map, List.length_take]; omega
  rw [e, List.replicate_succ, List.set_append_right _ _ (by omega), hl, Nat.sub_self, List.set_cons_zero, List.take_succ_eq_append_getElem hi, List.map_append, List.append_assoc]
  rfl
/-- A loop that sets each place of a fresh list. -/
theorem ev_map {α β : Type} (l : List α) (z : β) (g : α → β) (F : Nat → List β → Int → Option (List β)) (G : Nat → α → Option β) (hG : ∀ i (hi : i < l.length), Ev (fun k => G k l[i]) (g l[i]))
    (hstep : ∀ k (x : List β) (i : Nat) (hi : i < l.length), x.length = l.length → F (k + 1) x (i : Int) = (G k l[i]).bind fun v => F k (x.set i v) ((i + 1 : Nat) : Int))
    (hend : ∀ k (x : List β), F (k + 1) x (l.length : Int) = some x) : Ev (fun k => F k (List.replicate l.length z) 0) (l.map g) := by
  have main : ∀ d i, l.length - i = d → i ≤ l.length → Ev (fun k => F k ((l.take i).map g ++ List.replicate (l.length - i) z) (i : Int)) (l.map g) := by
    intro d
    induction d with
    | zero =>
      intro i hd hi
      obtain rfl : i = l.length := by omega
      refine ev_succ ?_
      simp only [hend, Nat.sub_self, List.replicate_zero, List.append_nil, List.take_length]
      exact Ev.now _
    | succ d ih =>
      intro i hd hi
      have hlt : i < l.length := by omega
      refine ev_succ ?_
      have hx : ((l.take i).map g ++ List.replicate (l.length - i) z).length = l.length := by
        rw [List.length_append, List.length_map, List.length_take, List.length_replicate]; omega
      simp only [hstep _ _ i hlt hx]
      refine Ev.bind (hG i hlt) ?_
      simp only [set_step g z l i hlt]
      exact ih (i + 1) (by omega) (by omega)
  have := main l.length 0 (by omega) (by omega)
  simp only [List.take_zero, List.map_nil, List.nil_append, Nat.sub_zero] at this
  exact this
/-- A loop that asks each place, and every place answers true. -/
theorem ev_trues {n : Nat} (F : Nat → Int → Option Bool) (G : Nat → Nat → Option Bool) (hG : ∀ i, i < n → Ev (fun k => G k i) true)
    (hstep : ∀ k (i : Nat), i < n → F (k + 1) (i : Int) = (G k i).bind fun t => if t = true then F k ((i + 1 : Nat) : Int) else some false)
    (hend : ∀ k, F (k + 1) (n : Int) = some true) : Ev (fun k => F k 0) true := by
  have main : ∀ d i, n - i = d → i ≤ n → Ev (fun k => F k (i : Int)) true := by
    intro d
    induction d with
    | zero =>
      intro i hd hi
      obtain rfl : i = n := by omega
      refine ev_succ ?_
      simp only [hend]
      exact Ev.now _
    | succ d ih =>
      intro i hd hi
      refine ev_succ ?_
      simp only [hstep _ i (show i < n by omega)]
      refine Ev.bind (hG i (by omega)) ?_
      simp only [if_true]
      exact ih (i + 1) (by omega) (by omega)
  exact main n 0 (by omega) (by omega)
theorem toNat_cast (i : Nat) : ((i : Int)).toNat = i := Int.toNat_natCast i
/-! #### good shapes -/
def shapeB (k x y w h : Int) : Bool := inB x (-100000) 100000 && (inB y (-100000) 100000 && (inB w 1 1000 && ((decide (k = 1) && inB h 1 1000) || (decide (k = 2) && (h == 0)))))
theorem spec_shape (k x y w h : Int) : spec_GoodShape.f k x y w h = some (shapeB k x y w h) := by
  unfold spec_GoodShape.f shapeB
  simp only [spec_in, Option.bind_some]
  cases inB x (-100000) 100000 <;> cases inB y (-100000) 100000 <;> cases inB w 1 1000 <;> cases inB h 1 1000 <;> by_cases h1 : k = 1 <;> by_cases h2 : k = 2 <;> simp [h1, h2] <;> omega
theorem impl_shape (k x y w h : Int) : impl_GoodShape.f k x y w h = some (shapeB k x y w h) := by
  unfold impl_GoodShape.f impl_isSpan.f shapeB
  simp only [impl_in, Option.bind_some]
  cases inB x (-100000) 100000 <;> cases inB y (-100000) 100000 <;> cases inB w 1 1000 <;> cases inB h 1 1000 <;> by_cases h1 : k = 1 <;> by_cases h2 : k = 2 <;> simp [h1, h2] <;> omega
theorem bounds_same (k x y w h : Int) : spec_l9Bounds.f k x y w h = impl_Shape_bounds.f k x y w h := rfl
/-- A shape's bounds: west, north, east, south. -/
def boundsV (k x y w h : Int) : Int × Int × Int × Int := if k = 1 then (x, y, wrap64 (x + w), wrap64 (y + h)) else (wrap64 (x - w), wrap64 (y - w), wrap64 (x + w), wrap64 (y + w))
theorem impl_bounds (k x y w h : Int) : impl_Shape_bounds.f k x y w h = some (boundsV k x y w h) := by
  unfold impl_Shape_bounds.f boundsV
  split <;> rfl
theorem spec_bounds (k x y w h : Int) : spec_l9Bounds.f k x y w h = some (boundsV k x y w h) := by rw [bounds_same, impl_bounds]
/-! #### shapes: converted, held against one another, marked; are all good (of the seat with RayMeets) -/
def shapeOf (x : S111) : S100 := ⟨x.f0, x.f1, x.f2, x.f3, x.f4⟩
theorem rd111 {l : List S111} {i : Nat} (h : i < l.length) : rd_T111 l (i : Int) = l[i] := by simp [rd_T111, h]
theorem rd100 {l : List S100} {i : Nat} (h : i < l.length) : rd_T100 l (i : Int) = l[i] := by simp [rd_T100, h]
theorem to_shapes (l : List S111) (hl : l.length ≤ 7036874417766) : Ev (fun k => laws_toShapeS.f k l) (l.map shapeOf) := by
  unfold laws_toShapeS.f
  simp only [if_pos (show (0 : Int) ≤ (l.length : Int) by omega), toNat_cast, if_pos hl]
  refine ev_map l z100 shapeOf (fun k x i => laws_toShapeS.l0 k l x i) (fun _ x => some (shapeOf x)) (fun _ _ => Ev.now _) ?_ ?_
  · intro k x i hi hx
    simp only [laws_toShapeS.l0, if_pos (show (i : Int) < (l.length : Int) by omega), if_pos (show (0 : Int) ≤ (i : Int) by omega), laws_toShape.f, Option.bind_some, if_pos (show (i : Int) < (x.length : Int) by omega), rd111 hi, toNat_cast, succ_cast hi (by omega)]
    rfl
  · intro k x
    simp only [laws_toShapeS.l0, if_neg (show ¬ (l.length : Int) < (l.length : Int) by omega)]
theorem eq_shapes (l : List S100) (hl : l.length ≤ 17592186044416) : Ev (fun k => laws_eqShapeS.f k l l) true := by
  unfold laws_eqShapeS.f
  simp only [if_true]
  refine ev_trues (n := l.length) (fun k i => laws_eqShapeS.l0 k l l i) (fun _ _ => some true) (fun _ _ => Ev.now _) ?_ ?_
  · intro k i hi
    simp only [laws_eqShapeS.l0, if_pos (show (i : Int) < (l.length : Int) by omega), if_pos (show (0 : Int) ≤ (i : Int) by omega), laws_eqShape.f, if_true, Option.bind_some, rd100 hi, succ_cast hi (by omega)]
  · intro k
    simp only [laws_eqShapeS.l0, if_neg (show ¬ (l.length : Int) < (l.length : Int) by omega)]
theorem mark_shapes_from (n : Nat) (hn : n ≤ 17592186044416) (d : Nat) : ∀ (i : Nat) (xs : List S100) (m : Int), n - i = d → i ≤ n → xs.length = n → m = 1 + 5 * (i : Int) → ∃ ys, Ev (fun k => laws_markShapeS.l0 k xs m (i : Int)) (1 + 5 * (n : Int), ys) := by
  induction d with
  | zero =>
    intro i xs m hd hi hx hm
    refine ⟨xs, ev_succ ?_⟩
    have : i = n := by omega
    simp only [laws_markShapeS.l0, if_neg (show ¬ (i : Int) < (xs.length : Int) by omega)]
    rw [hm, this]
    exact Ev.now _
  | succ d ih =>
    intro i xs m hd hi hx hm
    have g1 : n - (i + 1) = d := by omega
    have g2 : i + 1 ≤ n := by omega
    have g3 : m + 1 + 1 + 1 + 1 + 1 = 1 + 5 * ((i + 1 : Nat) : Int) := by omega
    have i0 : (i : Int) < (xs.length : Int) := by omega
    have i1 : (0 : Int) ≤ (i : Int) := by omega
    have es : wrap64 ((i : Int) + 1) = ((i + 1 : Nat) : Int) := by rw [wrap_small (by omega) (by omega)]; omega
    have e1 : wrap64 (m + 1) = m + 1 := wrap_small (by omega) (by omega)
    have e2 : wrap64 (m + 1 + 1) = m + 1 + 1 := wrap_small (by omega) (by omega)
    have e3 : wrap64 (m + 1 + 1 + 1) = m + 1 + 1 + 1 := wrap_small (by omega) (by omega)
    have e4 : wrap64 (m + 1 + 1 + 1 + 1) = m + 1 + 1 + 1 + 1 := wrap_small (by omega) (by omega)
    have e5 : wrap64 (m + 1 + 1 + 1 + 1 + 1) = m + 1 + 1 + 1 + 1 + 1 := wrap_small (by omega) (by omega)
    have key : ∀ zs : List S100, zs.length = n → ∃ ys, Ev (fun k => laws_markShapeS.l0 k zs (m + 1 + 1 + 1 + 1 + 1) ((i + 1 : Nat) : Int)) (1 + 5 * (n : Int), ys) := fun zs hz => ih (i + 1) zs _ g1 g2 hz g3
    suffices h : ∃ ys, Ev (fun k => laws_markShapeS.l0 (k + 1) xs m (i : Int)) (1 + 5 * (n : Int), ys) from h.elim fun ys hy => ⟨ys, ev_succ hy⟩
    simp only [laws_markShapeS.l0, if_pos i0, if_pos i1, Option.bind_some, e1, e2, e3, e4, e5, es]
    exact key _ (by simp only [List.length_set]; exact hx)
theorem mark_shapes (l : List S100) (hl : l.length ≤ 17592186044416) : ∃ ys, Ev (fun k => laws_markShapeS.f k l 1) (1 + 5 * (l.length : Int), ys) := mark_shapes_from l.length hl l.length 0 l 1 (by omega) (by omega) rfl (by omega)
def sB (x : S100) : Bool := shapeB x.f0 x.f1 x.f2 x.f3 x.f4
def shapesB (l : List S100) : Bool := decide ((l.length : Int) ≤ 40) && l.all sB
theorem spec_shapes_from (l : List S100) (hl : l.length ≤ 40) (d : Nat) : ∀ i : Nat, l.length - i = d → i ≤ l.length → Ev (fun k => spec_l9Shapes.l0 k l (l.length : Int) (i : Int)) ((l.drop i).all sB) := by
  induction d with
  | zero =>
    intro i hd hi
    have e : l.drop i = [] := List.drop_eq_nil_of_le (by omega)
    rw [e]
    refine ev_succ ?_
    simp only [spec_l9Shapes.l0, if_neg (show ¬ (i : Int) < (l.length : Int) by omega)]
    exact Ev.now _
  | succ d ih =>
    intro i hd hi
    have hlt : i < l.length := by omega
    rw [drop_cons hlt, List.all_cons]
    refine ev_succ ?_
    simp only [spec_l9Shapes.l0, if_pos (show (i : Int) < (l.length : Int) by omega), if_pos (show (0 : Int) ≤ (i : Int) by omega), spec_shape, rd100 hlt, succ_cast hlt (by omega), Option.bind_some]
    have e : shapeB l[i].f0 l[i].f1 l[i].f2 l[i].f3 l[i].f4 = sB l[i] := rfl
    rw [e]
    cases hb : sB l[i] with
    | true =>
      simp only [if_true, Bool.true_and]
      exact ih (i + 1) (by omega) (by omega)
    | false =>
      simp only [Bool.false_eq_true, if_false, Bool.false_and]
      exact Ev.now _
theorem spec_shapes (l : List S100) : Ev (fun k => spec_l9Shapes.f k l) (shapesB l) := by
  unfold spec_l9Shapes.f shapesB
  by_cases c : (l.length : Int) > 40
  · rw [decide_eq_false (show ¬ (l.length : Int) ≤ 40 by omega)]
    simp only [if_pos c, Bool.false_and]
    exact Ev.now _
  · rw [decide_eq_true (show (l.length : Int) ≤ 40 by omega)]
    simp only [if_neg c, Bool.true_and]
    have := spec_shapes_from l (by omega) l.length 0 (by omega) (by omega)
    rw [List.drop_zero] at this
    exact this
theorem impl_shapes (l : List S100) : impl_areShapes.f l = some (shapesB l) := by
  unfold impl_areShapes.f shapesB
  by_cases c : (l.length : Int) ≤ 40
  · have h : anyO impl_areShapes.on l = some (l.any fun a => !(sB a)) := anyO_some _ (fun a _ => by
      unfold impl_areShapes.on impl_areShapes_1.f
      rw [impl_shape]; rfl)
    rw [if_pos c, h, decide_eq_true c]
    simp only [Option.bind_some, Bool.true_and]
    congr 1
    rw [List.not_any_eq_all_not]
    simp
  · rw [if_neg c, decide_eq_false c, Bool.false_and]
/-! #### fractions with a denominator above nought -/
def lessB (p q : Int × Int) : Bool := decide (p.1 * q.2 < q.1 * p.2)
def red (p : Int × Int) : Int × Int := (p.1 / (Int.gcd p.1 p.2 : Int), p.2 / (Int.gcd p.1 p.2 : Int))
theorem red_spec (p : Int × Int) (h : 0 < p.2) : ∃ g : Int, 0 < g ∧ p.1 = (red p).1 * g ∧ p.2 = (red p).2 * g ∧ 0 < (red p).2 := by
  have hg : 0 < (Int.gcd p.1 p.2 : Int) := by
    have := Int.gcd_pos_of_ne_zero_right p.1 (show p.2 ≠ 0 by omega)
    omega
  have h1 : (red p).1 * (Int.gcd p.1 p.2 : Int) = p.1 := Int.ediv_mul_cancel (Int.gcd_dvd_left ..)
  have h2 : (red p).2 * (Int.gcd p.1 p.2 : Int) = p.2 := Int.ediv_mul_cancel (Int.gcd_dvd_right ..)
  refine ⟨_, hg, h1.symm, h2.symm, ?_⟩
  refine Int.pos_of_mul_pos_left (b := (Int.gcd p.1 p.2 : Int)) ?_ hg
  rw [h2]; exact h
theorem less_red (p q : Int × Int) (hp : 0 < p.2) (hq : 0 < q.2) : lessB (red p) (red q) = lessB p q := by
  obtain ⟨g, g0, g1, g2, _⟩ := red_spec p hp
  obtain ⟨k, k0, k1, k2, _⟩ := red_spec q hq
  unfold lessB
  generalize red p = p' at *
  generalize red q = q' at *
  rw [decide_eq_decide, g1, g2, k1, k2]
  have e1 : p'.1 * g * (q'.2 * k) = p'.1 * q'.2 * (g * k) := by rw [Int.mul_assoc, Int.mul_left_comm g, ← Int.mul_assoc]
  have e2 : q'.1 * k * (p'.2 * g) = q'.1 * p'.2 * (g * k) := by rw [Int.mul_assoc, Int.mul_left_comm k, ← Int.mul_assoc, Int.mul_comm k g]
  rw [e1, e2]
  exact (Int.mul_lt_mul_right (Int.mul_pos g0 k0)).symm
theorem less_iff {p q : Int × Int} : lessB p q = true ↔ p.1 * q.2 < q.1 * p.2 := by unfold lessB; rw [decide_eq_true_eq]
theorem less_not {p q : Int × Int} : lessB p q = false ↔ q.1 * p.2 ≤ p.1 * q.2 := by unfold lessB; rw [decide_eq_false_iff_not, Int.not_lt]
/-- p ≤ q < r. -/
theorem le_less {p q r : Int × Int} (hp : 0 < p.2) (hq : 0 < q.2) (hr : 0 < r.2) (h1 : lessB q p = false) (h2 : lessB q r = true) : lessB p r = true := by
  rw [less_not] at h1
  rw [less_iff] at h2 ⊢
  have e1 := Int.mul_le_mul_of_nonneg_right h1 (show 0 ≤ r.2 by omega)
  have e2 := Int.mul_lt_mul_of_pos_right h2 hp
  refine Int.lt_of_mul_lt_mul_right (a := q.2) ?_ (by omega)
  rw [show p.1 * r.2 * q.2 = p.1 * q.2 * r.2 from Int.mul_right_comm _ _ _, show r.1 * p.2 * q.2 = r.1 * q.2 * p.2 from Int.mul_right_comm _ _ _]
  refine Int.lt_of_le_of_lt e1 ?_
  rw [show q.1 * p.2 * r.2 = q.1 * r.2 * p.2 from Int.mul_right_comm _ _ _]
  exact e2
theorem less_asymm {p q : Int × Int} (h : lessB p q = true) : lessB q p = false := by
  rw [less_iff] at h; rw [less_not]; omega
theorem neg_less {t f : Int × Int} (ht : t.1 < 0) (ht2 : 0 < t.2) (hf : 0 ≤ f.1) (hf2 : 0 < f.2) : lessB t f = true := by
  rw [less_iff]
  have e1 : t.1 * f.2 < 0 := Int.mul_neg_of_neg_of_pos ht hf2
  have e2 := Int.mul_nonneg hf (show 0 ≤ t.2 by omega)
  omega
/-! #### the greatest common divisor -/
theorem impl_gcd (n : Nat) : ∀ m : Nat, Ev (fun k => impl_common.l0 k (m : Int) (n : Int)) (Nat.gcd m n : Int) := by
  induction n using Nat.strongRecOn with
  | ind n ih =>
    intro m
    refine ev_succ ?_
    by_cases h : n = 0
    · subst h
      simp only [impl_common.l0, if_pos (show ((0 : Nat) : Int) = 0 from rfl), Nat.gcd_zero_right]
      exact Ev.now _
    · simp only [impl_common.l0, if_neg (show ¬ (n : Int) = 0 by omega)]
      rw [show Int.tmod (m : Int) (n : Int) = ((m % n : Nat) : Int) by rw [Int.tmod_eq_emod_of_nonneg (by omega)]; rfl]
      have := ih (m % n) (Nat.mod_lt _ (by omega)) n
      rw [show Nat.gcd n (m % n) = Nat.gcd m n by rw [Nat.gcd_comm n, ← Nat.gcd_rec, Nat.gcd_comm]] at this
      exact this
theorem spec_gcd0 (n : Nat) : ∀ m : Nat, Ev (fun k => spec_l9Gcd.l0 k (m : Int) (n : Int)) (Nat.gcd m n : Int) := by
  induction n using Nat.strongRecOn with
  | ind n ih =>
    intro m
    refine ev_succ ?_
    by_cases h : n = 0
    · subst h
      simp only [spec_l9Gcd.l0, if_pos (show ((0 : Nat) : Int) = 0 from rfl), Nat.gcd_zero_right]
      exact Ev.now _
    · simp only [spec_l9Gcd.l0, if_neg (show ¬ (n : Int) = 0 by omega)]
      rw [show Int.tmod (m : Int) (n : Int) = ((m % n : Nat) : Int) by rw [Int.tmod_eq_emod_of_nonneg (by omega)]; rfl]
      have := ih (m % n) (Nat.mod_lt _ (by omega)) n
      rw [show Nat.gcd n (m % n) = Nat.gcd m n by rw [Nat.gcd_comm n, ← Nat.gcd_rec, Nat.gcd_comm]] at this
      exact this
theorem impl_common_val (p : Int × Int) (h0 : 0 ≤ p.1) (h1 : 0 < p.2) : Ev (fun k => impl_common.f k p.1 p.2) (Int.gcd p.1 p.2 : Int) := by
  obtain ⟨m, hm⟩ : ∃ m : Nat, p.1 = (m : Int) := ⟨p.1.toNat, by omega⟩
  obtain ⟨n, hn⟩ : ∃ n : Nat, p.2 = (n : Int) := ⟨p.2.toNat, by omega⟩
  unfold impl_common.f
  rw [hm, hn]
  exact impl_gcd n m
theorem spec_gcd_val (a b : Int) (ha : -1048576 ≤ a ∧ a ≤ 1048576) (hb : 0 < b) : Ev (fun k => spec_l9Gcd.f k a b) (Int.gcd a b : Int) := by
  obtain ⟨n, hn⟩ : ∃ n : Nat, b = (n : Int) := ⟨b.toNat, by omega⟩
  unfold spec_l9Gcd.f spec_l1Abs.f
  have key : ∀ c : Int, c = (a.natAbs : Int) → Ev (fun k => spec_l9Gcd.l0 k c b) (Int.gcd a b : Int) := by
    rintro c rfl
    rw [hn]
    exact spec_gcd0 n a.natAbs
  by_cases h : a < 0
  · simp only [if_pos h, Option.bind_some, wrap_small (show -9223372036854775808 ≤ -a by omega) (show -a ≤ 9223372036854775807 by omega)]
    exact key _ (by omega)
  · simp only [if_neg h, Option.bind_some]
    exact key _ (by omega)
theorem red_wrap {p : Int × Int} (h0 : -1048576 ≤ p.1 ∧ p.1 ≤ 1048576) (h1 : 0 < p.2) (h2 : p.2 ≤ 1048576) : (wrap64 (Int.tdiv p.1 (Int.gcd p.1 p.2 : Int)), wrap64 (Int.tdiv p.2 (Int.gcd p.1 p.2 : Int))) = red p ∧ ¬ (Int.gcd p.1 p.2 : Int) = 0 ∧ -1048576 ≤ (red p).1 ∧ (red p).1 ≤ 1048576 ∧ 1 ≤ (red p).2 ∧ (red p).2 ≤ 1048576 := by
  obtain ⟨g, g0, g1, g2, g3⟩ := red_spec p h1
  have hg : 0 < (Int.gcd p.1 p.2 : Int) := by
    have := Int.gcd_pos_of_ne_zero_right p.1 (show p.2 ≠ 0 by omega)
    omega
  have a1 : -1048576 ≤ (red p).1 ∧ (red p).1 ≤ 1048576 := by
    have hg1 : 1 ≤ g := by omega
    generalize (red p).1 = r at *
    constructor
    · by_cases hr : 0 ≤ r
      · omega
      · have : r * g ≤ r * 1 := Int.mul_le_mul_of_nonpos_left (by omega) hg1
        omega
    · by_cases hr : r ≤ 0
      · omega
      · have : r * 1 ≤ r * g := Int.mul_le_mul_of_nonneg_left hg1 (by omega)
        omega
  have a2 : (red p).2 ≤ 1048576 := by
    have hg1 : 1 ≤ g := by omega
    generalize (red p).2 = r at *
    have : r * 1 ≤ r * g := Int.mul_le_mul_of_nonneg_left hg1 (by omega)
    omega
  have e1 : Int.tdiv p.1 (Int.gcd p.1 p.2 : Int) = (red p).1 := Int.tdiv_eq_ediv_of_dvd (Int.gcd_dvd_left ..)
  have e2 : Int.tdiv p.2 (Int.gcd p.1 p.2 : Int) = (red p).2 := Int.tdiv_eq_ediv_of_dvd (Int.gcd_dvd_right ..)
  rw [e1, e2, wrap_small (by omega) (by omega), wrap_small (by omega) (by omega)]
  exact ⟨rfl, by omega, a1.1, a1.2, by omega, a2⟩
/-! #### one axis -/
structure Small (p : Int × Int) : Prop where
  lo : -1048576 ≤ p.1
  hi : p.1 ≤ 1048576
  pos : 1 ≤ p.2
  le : p.2 ≤ 1048576
theorem red_small {p : Int × Int} (h : Small p) : Small (red p) := by
  obtain ⟨_, _, a, b, c, d⟩ := red_wrap (p := p) ⟨h.lo, h.hi⟩ (by have := h.pos; omega) h.le
  exact ⟨a, b, c, d⟩
theorem mul_small {a b : Int} (h0 : -1048576 ≤ a) (h1 : a ≤ 1048576) (h2 : 1 ≤ b) (h3 : b ≤ 1048576) : -9223372036854775808 ≤ a * b ∧ a * b ≤ 9223372036854775807 := by
  have e1 : a * b ≤ 1048576 * b := Int.mul_le_mul_of_nonneg_right h1 (by omega)
  have e2 : -1048576 * b ≤ a * b := Int.mul_le_mul_of_nonneg_right h0 (by omega)
  omega
theorem spec_less {p q : Int × Int} (hp : Small p) (hq : Small q) : spec_l9Less.f p.1 p.2 q.1 q.2 = some (lessB p q) := by
  unfold spec_l9Less.f lessB
  have a := mul_small hp.lo hp.hi hq.pos hq.le
  have b := mul_small hq.lo hq.hi hp.pos hp.le
  rw [wrap_small a.1 a.2, wrap_small b.1 b.2]
theorem spec_over (a b : Int) (ha : -1048576 ≤ a ∧ a ≤ 1048576) (hb : -1048576 ≤ b ∧ b ≤ 1048576) (h0 : b ≠ 0) : Ev (fun k => spec_l9Over.f k a b) (red (if b < 0 then (-a, -b) else (a, b))) := by
  unfold spec_l9Over.f
  by_cases h : b < 0
  · simp only [if_pos h, wrap_small (show -9223372036854775808 ≤ -a by omega) (show -a ≤ 9223372036854775807 by omega), wrap_small (show -9223372036854775808 ≤ -b by omega) (show -b ≤ 9223372036854775807 by omega)]
    obtain ⟨e, hg, _⟩ := red_wrap (p := (-a, -b)) (by dsimp only; omega) (by dsimp only; omega) (by dsimp only; omega)
    refine Ev.bind (spec_gcd_val (-a) (-b) (by omega) (by omega)) ?_
    dsimp only at e hg
    simp only [if_neg hg, e]
    exact Ev.now _
  · simp only [if_neg h]
    obtain ⟨e, hg, _⟩ := red_wrap (p := (a, b)) (by dsimp only; omega) (by dsimp only; omega) (by dsimp only; omega)
    refine Ev.bind (spec_gcd_val a b (by omega) (by omega)) ?_
    dsimp only at e hg
    simp only [if_neg hg, e]
    exact Ev.now _
/-- Where the way enters a span, and where it leaves it. -/
def inF (x dx lo hi : Int) : Int × Int := if dx < 0 then (x - hi, -dx) else (lo - x, dx)
def outF (x dx lo hi : Int) : Int × Int := if dx < 0 then (x - lo, -dx) else (hi - x, dx)
theorem inF_small {x dx lo hi : Int} (hx : -100000 ≤ x ∧ x ≤ 100000) (hd : -100000 ≤ dx ∧ dx ≤ 100000) (h0 : dx ≠ 0) (hl : -200000 ≤ lo ∧ lo ≤ 200000) (hh : -200000 ≤ hi ∧ hi ≤ 200000) : Small (inF x dx lo hi) ∧ Small (outF x dx lo hi) := by
  unfold inF outF
  by_cases h : dx < 0
  · rw [if_pos h, if_pos h]; exact ⟨⟨by dsimp only; omega, by dsimp only; omega, by dsimp only; omega, by dsimp only; omega⟩, ⟨by dsimp only; omega, by dsimp only; omega, by dsimp only; omega, by dsimp only; omega⟩⟩
  · rw [if_neg h, if_neg h]; exact ⟨⟨by dsimp only; omega, by dsimp only; omega, by dsimp only; omega, by dsimp only; omega⟩, ⟨by dsimp only; omega, by dsimp only; omega, by dsimp only; omega, by dsimp only; omega⟩⟩
abbrev AxisV := (Int × Int) × (Int × Int) × Bool × Bool
def axisV (i o : Int × Int) (b : Bool) (x dx lo hi : Int) : AxisV :=
  if dx = 0 then (i, o, b, inB x lo hi)
  else (if lessB i (red (inF x dx lo hi)) = true then red (inF x dx lo hi) else i, if b = false ∨ lessB (red (outF x dx lo hi)) o = true then red (outF x dx lo hi) else o, true, true)
def six (v : AxisV) : Int × Int × Int × Int × Bool × Bool := (v.1.1, v.1.2, v.2.1.1, v.2.1.2, v.2.2.1, v.2.2.2)
theorem spec_axis (i o : Int × Int) (b : Bool) (x dx lo hi : Int) (hi_ : Small i) (ho : Small o) (hx : -100000 ≤ x ∧ x ≤ 100000) (hd : -100000 ≤ dx ∧ dx ≤ 100000) (hl : -200000 ≤ lo ∧ lo ≤ 200000) (hh : -200000 ≤ hi ∧ hi ≤ 200000) (hlh : lo < hi) :
    Ev (fun k => spec_l9Axis.f k i.1 i.2 o.1 o.2 b x dx lo hi) (six (axisV i o b x dx lo hi)) := by
  unfold spec_l9Axis.f axisV
  by_cases h0 : dx = 0
  · simp only [if_pos h0]
    unfold inB six
    by_cases c : x ≥ lo
    · simp only [if_pos c, show (lo ≤ x ∧ x ≤ hi) ↔ x ≤ hi from ⟨fun h => h.2, fun h => ⟨c, h⟩⟩]
      exact Ev.now _
    · simp only [if_neg c, show decide (lo ≤ x ∧ x ≤ hi) = false from decide_eq_false (by omega)]
      exact Ev.now _
  · obtain ⟨sI, sO⟩ := inF_small hx hd h0 hl hh
    simp only [if_neg h0, wrap_small (show -9223372036854775808 ≤ lo - x by omega) (show lo - x ≤ 9223372036854775807 by omega), wrap_small (show -9223372036854775808 ≤ hi - x by omega) (show hi - x ≤ 9223372036854775807 by omega)]
    refine Ev.bind (spec_over (lo - x) dx (by omega) (by omega) h0) (Ev.bind (spec_over (hi - x) dx (by omega) (by omega) h0) ?_)
    have rI := red_small sI
    have rO := red_small sO
    have tail : ∀ A Z : Int × Int, A = red (inF x dx lo hi) → Z = red (outF x dx lo hi) → Ev (fun k => spec_l9Axis.j0 k b i.1 i.2 o.1 o.2 A.1 A.2 Z.1 Z.2) (six (if lessB i (red (inF x dx lo hi)) = true then red (inF x dx lo hi) else i, if b = false ∨ lessB (red (outF x dx lo hi)) o = true then red (outF x dx lo hi) else o, true, true)) := by
      rintro A Z rfl rfl
      refine ev_succ ?_
      simp only [spec_l9Axis.j0, spec_less hi_ rI, spec_less rO ho, Option.bind_some]
      unfold six
      cases lessB i (red (inF x dx lo hi)) <;> cases b <;> cases lessB (red (outF x dx lo hi)) o <;> simp only [if_true, if_false, Bool.false_eq_true, reduceCtorEq, or_false, or_true, false_or, true_or, or_self] <;> exact Ev.now _
    by_cases h : dx < 0
    · have e1 : (if dx < 0 then (-(lo - x), -dx) else (lo - x, dx)) = outF x dx lo hi := by unfold outF; rw [if_pos h, if_pos h]; congr 1; omega
      have e2 : (if dx < 0 then (-(hi - x), -dx) else (hi - x, dx)) = inF x dx lo hi := by unfold inF; rw [if_pos h, if_pos h]; congr 1; omega
      rw [e1, e2]
      have hl : lessB (red (inF x dx lo hi)) (red (outF x dx lo hi)) = true := by
        rw [less_red _ _ (by have := sI.pos; omega) (by have := sO.pos; omega), less_iff]
        unfold inF outF
        rw [if_pos h, if_pos h]
        exact Int.mul_lt_mul_of_pos_right (show x - hi < x - lo by omega) (show 0 < -dx by omega)
      simp only [spec_less rI rO, hl, Option.bind_some, if_true]
      exact tail _ _ rfl rfl
    · have e1 : (if dx < 0 then (-(lo - x), -dx) else (lo - x, dx)) = inF x dx lo hi := by unfold inF; rw [if_neg h, if_neg h]
      have e2 : (if dx < 0 then (-(hi - x), -dx) else (hi - x, dx)) = outF x dx lo hi := by unfold outF; rw [if_neg h, if_neg h]
      rw [e1, e2]
      have hl : lessB (red (outF x dx lo hi)) (red (inF x dx lo hi)) = false := by
        rw [less_red _ _ (by have := sO.pos; omega) (by have := sI.pos; omega), less_not]
        unfold inF outF
        rw [if_neg h, if_neg h]
        exact Int.mul_le_mul_of_nonneg_right (show lo - x ≤ hi - x by omega) (show 0 ≤ dx by omega)
      simp only [spec_less rO rI, hl, Option.bind_some, Bool.false_eq_true, if_false]
      exact tail _ _ rfl rfl
/-! #### the program's way of saying it -/
def fromF (x dx lo hi : Int) : Int × Int := if dx = 0 then (0, 1) else (mx (inF x dx lo hi).1 0, (inF x dx lo hi).2)
def toF (x dx lo hi : Int) : Int × Int := if dx = 0 then (1, 0) else outF x dx lo hi
def okB (x dx lo hi : Int) : Bool := if dx = 0 then inB x lo hi else decide (0 ≤ (outF x dx lo hi).1)
theorem impl_btw (x dx lo hi : Int) (hx : -100000 ≤ x ∧ x ≤ 100000) (hd : -100000 ≤ dx ∧ dx ≤ 100000) (hl : -200000 ≤ lo ∧ lo ≤ 200000) (hh : -200000 ≤ hi ∧ hi ≤ 200000) :
    impl_between.f x dx lo hi = some ((fromF x dx lo hi).1, (fromF x dx lo hi).2, (toF x dx lo hi).1, (toF x dx lo hi).2, okB x dx lo hi) := by
  unfold impl_between.f fromF toF okB inF outF
  by_cases h0 : dx = 0
  · simp only [if_pos h0, impl_in, Option.bind_some]
  · by_cases h : dx < 0
    · simp only [if_neg h0, if_pos h, wrap_small (show -9223372036854775808 ≤ -hi by omega) (show -hi ≤ 9223372036854775807 by omega), wrap_small (show -9223372036854775808 ≤ -lo by omega) (show -lo ≤ 9223372036854775807 by omega), wrap_small (show -9223372036854775808 ≤ -x by omega) (show -x ≤ 9223372036854775807 by omega), wrap_small (show -9223372036854775808 ≤ -dx by omega) (show -dx ≤ 9223372036854775807 by omega), wrap_small (show -9223372036854775808 ≤ -hi - -x by omega) (show -hi - -x ≤ 9223372036854775807 by omega), wrap_small (show -9223372036854775808 ≤ -lo - -x by omega) (show -lo - -x ≤ 9223372036854775807 by omega)]
      rw [show -hi - -x = x - hi by omega, show -lo - -x = x - lo by omega, show decide (-lo ≥ -x) = decide (0 ≤ x - lo) from decide_eq_decide.2 (by omega)]
    · simp only [if_neg h0, if_neg h, wrap_small (show -9223372036854775808 ≤ lo - x by omega) (show lo - x ≤ 9223372036854775807 by omega), wrap_small (show -9223372036854775808 ≤ hi - x by omega) (show hi - x ≤ 9223372036854775807 by omega)]
      rw [show decide (hi ≥ x) = decide (0 ≤ hi - x) from decide_eq_decide.2 (by omega)]
theorem mx_cases (a : Int) : mx a 0 = if a < 0 then 0 else a := by unfold mx; split <;> rfl
/-- The fraction of the way at which both spans have been entered. -/
def bothF (x y dx dy x0 y0 x1 y1 : Int) : Int × Int := if lessB (fromF x dx x0 x1) (fromF y dy y0 y1) = true then fromF y dy y0 y1 else fromF x dx x0 x1
def hitB (x y dx dy x0 y0 x1 y1 : Int) : Bool := okB x dx x0 x1 && (okB y dy y0 y1 && (!(lessB (toF x dx x0 x1) (bothF x y dx dy x0 y0 x1 y1)) && !(lessB (toF y dy y0 y1) (bothF x y dx dy x0 y0 x1 y1))))
structure Fine (p : Int × Int) : Prop where
  lo : 0 ≤ p.1
  hi : p.1 ≤ 1048576
  pos : 1 ≤ p.2
  le : p.2 ≤ 1048576
theorem Fine.small {p : Int × Int} (h : Fine p) : Small p := ⟨by have := h.lo; omega, h.hi, h.pos, h.le⟩
theorem from_fine {x dx lo hi : Int} (hx : -100000 ≤ x ∧ x ≤ 100000) (hd : -100000 ≤ dx ∧ dx ≤ 100000) (hl : -200000 ≤ lo ∧ lo ≤ 200000) (hh : -200000 ≤ hi ∧ hi ≤ 200000) : Fine (fromF x dx lo hi) := by
  unfold fromF
  by_cases h0 : dx = 0
  · rw [if_pos h0]; exact ⟨by decide, by decide, by decide, by decide⟩
  · rw [if_neg h0]
    obtain ⟨s, _⟩ := inF_small hx hd h0 hl hh
    have := s.hi
    rw [mx_cases]
    exact ⟨by dsimp only; split <;> omega, by dsimp only; split <;> omega, s.pos, s.le⟩
theorem red_from {x dx lo hi : Int} (hx : -100000 ≤ x ∧ x ≤ 100000) (hd : -100000 ≤ dx ∧ dx ≤ 100000) (h0 : dx ≠ 0) (hl : -200000 ≤ lo ∧ lo ≤ 200000) (hh : -200000 ≤ hi ∧ hi ≤ 200000) (i f : Int × Int) (hf : Fine f) (hi_ : i = red f) :
    (if lessB i (red (inF x dx lo hi)) = true then red (inF x dx lo hi) else i) = red (if lessB f (fromF x dx lo hi) = true then fromF x dx lo hi else f) := by
  obtain ⟨s, _⟩ := inF_small hx hd h0 hl hh
  subst hi_
  rw [less_red _ _ (by have := hf.pos; omega) (by have := s.pos; omega)]
  unfold fromF
  rw [if_neg h0, mx_cases]
  generalize inF x dx lo hi = p at *
  have e0 := Int.mul_nonneg hf.lo (show 0 ≤ p.2 by have := s.pos; omega)
  by_cases c : p.1 < 0
  · rw [if_pos c]
    have h1 : lessB f p = false := by
      rw [less_not]
      have : p.1 * f.2 < 0 := Int.mul_neg_of_neg_of_pos c (by have := hf.pos; omega)
      omega
    have h2 : lessB f (0, p.2) = false := by
      rw [less_not]
      dsimp only
      rw [Int.zero_mul]; exact e0
    rw [h1, h2]
    rfl
  · rw [if_neg c]
    split <;> rfl
theorem red_one : red (0, 1) = (0, 1) := by decide
theorem zero_less (p : Int × Int) (hp : 0 ≤ p.1) : lessB p (0, 1) = false := by rw [less_not]; dsimp only; omega
theorem far_less (p : Int × Int) (hp : 1 ≤ p.2) : lessB (1, 0) p = false := by rw [less_not]; dsimp only; omega
/-- What the reference keeps of a box behind both axes. -/
def endV (x y dx dy x0 y0 x1 y1 : Int) : AxisV :=
  if (axisV (0, 1) (1, 1) false x dx x0 x1).2.2.2 = true then axisV (axisV (0, 1) (1, 1) false x dx x0 x1).1 (axisV (0, 1) (1, 1) false x dx x0 x1).2.1 (axisV (0, 1) (1, 1) false x dx x0 x1).2.2.1 y dy y0 y1 else axisV (0, 1) (1, 1) false x dx x0 x1
def keepB (v : AxisV) : Bool := v.2.2.2 && !(v.2.2.1 && lessB v.2.1 v.1)
structure Boxed (x y dx dy x0 y0 x1 y1 : Int) : Prop where
  hx : -100000 ≤ x ∧ x ≤ 100000
  hy : -100000 ≤ y ∧ y ≤ 100000
  hdx : -100000 ≤ dx ∧ dx ≤ 100000
  hdy : -100000 ≤ dy ∧ dy ≤ 100000
  hx0 : -200000 ≤ x0 ∧ x0 ≤ 200000
  hy0 : -200000 ≤ y0 ∧ y0 ≤ 200000
  hx1 : -200000 ≤ x1 ∧ x1 ≤ 200000
  hy1 : -200000 ≤ y1 ∧ y1 ≤ 200000
  hxx : x0 < x1
  hyy : y0 < y1
theorem ok_out {x dx lo hi : Int} (hx : -100000 ≤ x ∧ x ≤ 100000) (hd : -100000 ≤ dx ∧ dx ≤ 100000) (h0 : dx ≠ 0) (hl : -200000 ≤ lo ∧ lo ≤ 200000) (hh : -200000 ≤ hi ∧ hi ≤ 200000) (F : Int × Int) (hF : Fine F) : (okB x dx lo hi && !(lessB (toF x dx lo hi) F)) = !(lessB (outF x dx lo hi) F) := by
  obtain ⟨_, s⟩ := inF_small hx hd h0 hl hh
  unfold okB toF
  rw [if_neg h0, if_neg h0]
  by_cases c : 0 ≤ (outF x dx lo hi).1
  · rw [decide_eq_true c, Bool.true_and]
  · rw [decide_eq_false c, neg_less (by omega) (by have := s.pos; omega) hF.lo (by have := hF.pos; omega)]
    rfl
theorem hit_same {x y dx dy x0 y0 x1 y1 : Int} (B : Boxed x y dx dy x0 y0 x1 y1) (hne : ¬ (dx = 0 ∧ dy = 0)) :
    keepB (endV x y dx dy x0 y0 x1 y1) = hitB x y dx dy x0 y0 x1 y1 ∧ (keepB (endV x y dx dy x0 y0 x1 y1) = true → (endV x y dx dy x0 y0 x1 y1).1 = red (bothF x y dx dy x0 y0 x1 y1)) := by
  have fx := from_fine B.hx B.hdx B.hx0 B.hx1
  have fy := from_fine B.hy B.hdy B.hy0 B.hy1
  have fF : Fine (bothF x y dx dy x0 y0 x1 y1) := by unfold bothF; split <;> assumption
  by_cases hx : dx = 0
  · have hy : dy ≠ 0 := fun h => hne ⟨hx, h⟩
    have eF : bothF x y dx dy x0 y0 x1 y1 = if lessB (0, 1) (fromF y dy y0 y1) = true then fromF y dy y0 y1 else (0, 1) := by unfold bothF; rw [show fromF x dx x0 x1 = (0, 1) by unfold fromF; rw [if_pos hx]]
    obtain ⟨_, sy⟩ := inF_small B.hy B.hdy hy B.hy0 B.hy1
    have hin := red_from B.hy B.hdy hy B.hy0 B.hy1 (0, 1) (0, 1) ⟨by decide, by decide, by decide, by decide⟩ red_one.symm
    rw [← eF] at hin
    unfold hitB endV keepB
    have e1 : axisV (0, 1) (1, 1) false x dx x0 x1 = ((0, 1), (1, 1), false, inB x x0 x1) := by unfold axisV; rw [if_pos hx]
    have e2 : axisV (0, 1) (1, 1) false y dy y0 y1 = (red (bothF x y dx dy x0 y0 x1 y1), red (outF y dy y0 y1), true, true) := by
      unfold axisV
      rw [if_neg hy, hin, if_pos (Or.inl rfl)]
    have e3 : okB x dx x0 x1 = inB x x0 x1 := by unfold okB; rw [if_pos hx]
    have e4 : lessB (toF x dx x0 x1) (bothF x y dx dy x0 y0 x1 y1) = false := by rw [show toF x dx x0 x1 = (1, 0) by unfold toF; rw [if_pos hx]]; exact far_less _ fF.pos
    have e5 := ok_out B.hy B.hdy hy B.hy0 B.hy1 _ fF
    rw [e1]
    dsimp only
    rw [e2, e3, e4, Bool.not_false, Bool.true_and, e5]
    cases inB x x0 x1 with
    | false => exact ⟨rfl, fun h => by cases h⟩
    | true =>
      simp only [if_true, Bool.true_and]
      exact ⟨by rw [less_red _ _ (by have := sy.pos; omega) (by have := fF.pos; omega)], fun _ => by trivial⟩
  · obtain ⟨sI, sx⟩ := inF_small B.hx B.hdx hx B.hx0 B.hx1
    have hin := red_from B.hx B.hdx hx B.hx0 B.hx1 (0, 1) (0, 1) ⟨by decide, by decide, by decide, by decide⟩ red_one.symm
    have hin2 : (if lessB (0, 1) (red (inF x dx x0 x1)) = true then red (inF x dx x0 x1) else (0, 1)) = red (fromF x dx x0 x1) := by
      rw [hin]
      by_cases c : lessB (0, 1) (fromF x dx x0 x1) = true
      · rw [if_pos c]
      · rw [if_neg c, red_one]
        have h1 : (fromF x dx x0 x1).1 = 0 := by
          rw [Bool.not_eq_true, less_not] at c
          dsimp only at c
          have := fx.lo; omega
        have h2 := fx.pos
        generalize fromF x dx x0 x1 = p at *
        obtain ⟨p1, p2⟩ := p
        dsimp only at h1 h2
        subst h1
        unfold red
        dsimp only
        rw [show (Int.gcd 0 p2 : Int) = p2 by rw [Int.gcd_zero_left]; omega, Int.ediv_self (by omega), Int.zero_ediv]
    have e1 : axisV (0, 1) (1, 1) false x dx x0 x1 = (red (fromF x dx x0 x1), red (outF x dx x0 x1), true, true) := by
      unfold axisV
      rw [if_neg hx, hin2, if_pos (Or.inl rfl)]
    unfold hitB endV keepB
    rw [e1]
    dsimp only
    rw [if_pos rfl]
    have e5 := ok_out B.hx B.hdx hx B.hx0 B.hx1 _ fF
    by_cases hy : dy = 0
    · have eF : bothF x y dx dy x0 y0 x1 y1 = fromF x dx x0 x1 := by
        unfold bothF
        rw [show fromF y dy y0 y1 = (0, 1) by unfold fromF; rw [if_pos hy], zero_less _ fx.lo]
        rfl
      have e2 : axisV (red (fromF x dx x0 x1)) (red (outF x dx x0 x1)) true y dy y0 y1 = (red (fromF x dx x0 x1), red (outF x dx x0 x1), true, inB y y0 y1) := by unfold axisV; rw [if_pos hy]
      have e3 : okB y dy y0 y1 = inB y y0 y1 := by unfold okB; rw [if_pos hy]
      have e4 : lessB (toF y dy y0 y1) (bothF x y dx dy x0 y0 x1 y1) = false := by rw [show toF y dy y0 y1 = (1, 0) by unfold toF; rw [if_pos hy]]; exact far_less _ fF.pos
      rw [e2, e3, e4]
      dsimp only
      rw [Bool.not_false, Bool.and_true]
      have e6 : (okB x dx x0 x1 && (inB y y0 y1 && !(lessB (toF x dx x0 x1) (bothF x y dx dy x0 y0 x1 y1)))) = (inB y y0 y1 && (okB x dx x0 x1 && !(lessB (toF x dx x0 x1) (bothF x y dx dy x0 y0 x1 y1)))) := by
        cases okB x dx x0 x1 <;> cases inB y y0 y1 <;> rfl
      rw [e6, e5, eF, Bool.true_and, less_red _ _ (by have := sx.pos; omega) (by have := fx.pos; omega)]
      exact ⟨rfl, fun _ => rfl⟩
    · obtain ⟨_, sy⟩ := inF_small B.hy B.hdy hy B.hy0 B.hy1
      have hb := red_from B.hy B.hdy hy B.hy0 B.hy1 (red (fromF x dx x0 x1)) (fromF x dx x0 x1) fx rfl
      have eB : (if lessB (fromF x dx x0 x1) (fromF y dy y0 y1) = true then fromF y dy y0 y1 else fromF x dx x0 x1) = bothF x y dx dy x0 y0 x1 y1 := rfl
      rw [eB] at hb
      have e2 : axisV (red (fromF x dx x0 x1)) (red (outF x dx x0 x1)) true y dy y0 y1 = (red (bothF x y dx dy x0 y0 x1 y1), if lessB (outF y dy y0 y1) (outF x dx x0 x1) = true then red (outF y dy y0 y1) else red (outF x dx x0 x1), true, true) := by
        unfold axisV
        rw [if_neg hy, hb, less_red _ _ (by have := sy.pos; omega) (by have := sx.pos; omega)]
        simp only [Bool.true_eq_false, false_or]
      have e7 := ok_out B.hy B.hdy hy B.hy0 B.hy1 _ fF
      rw [e2]
      dsimp only
      have e6 : (okB x dx x0 x1 && (okB y dy y0 y1 && (!(lessB (toF x dx x0 x1) (bothF x y dx dy x0 y0 x1 y1)) && !(lessB (toF y dy y0 y1) (bothF x y dx dy x0 y0 x1 y1))))) = (!(lessB (outF x dx x0 x1) (bothF x y dx dy x0 y0 x1 y1)) && !(lessB (outF y dy y0 y1) (bothF x y dx dy x0 y0 x1 y1))) := by
        rw [← e5, ← e7]
        cases okB x dx x0 x1 <;> cases okB y dy y0 y1 <;> cases lessB (toF x dx x0 x1) (bothF x y dx dy x0 y0 x1 y1) <;> rfl
      rw [e6, Bool.true_and, Bool.true_and]
      refine ⟨?_, fun _ => rfl⟩
      have p1 : 0 < (outF x dx x0 x1).2 := by have := sx.pos; omega
      have p2 : 0 < (outF y dy y0 y1).2 := by have := sy.pos; omega
      have p3 : 0 < (bothF x y dx dy x0 y0 x1 y1).2 := by have := fF.pos; omega
      by_cases c : lessB (outF y dy y0 y1) (outF x dx x0 x1) = true
      · rw [if_pos c, less_red _ _ p2 p3]
        cases h1 : lessB (outF x dx x0 x1) (bothF x y dx dy x0 y0 x1 y1) with
        | false => rfl
        | true => rw [le_less p2 p1 p3 (less_asymm c) h1]; rfl
      · rw [if_neg c, less_red _ _ p1 p3]
        rw [Bool.not_eq_true] at c
        cases h1 : lessB (outF y dy y0 y1) (bothF x y dx dy x0 y0 x1 y1) with
        | false => rw [Bool.not_false, Bool.and_true]
        | true => rw [le_less p1 p2 p3 c h1]; rfl
/-! #### the list of meetings: kept sorted as it grows, or sorted at the end -/
theorem getD_lt {U : List S109} {i : Nat} (h : i < U.length) : U.getD i z109 = U[i] := by simp [h]
theorem trip_at {U : List S109} {i : Nat} (h : i < U.length) : (U.map impl_Meet_73.trip).getD i (0, 0, 1) = (U[i].f0, U[i].f1, U[i].f2) := by
  simp only [List.getD_eq_getElem?_getD, List.getElem?_map, List.getElem?_eq_getElem h, Option.map_some, Option.getD_some]
  rfl
def ltI (U : List S109) (i j : Nat) : Bool := ltOf (Stable.cmpM (U.map impl_Meet_73.trip)) i j
def mlt (a b : S109) : Bool := lessB (a.f1, a.f2) (b.f1, b.f2)
theorem ltI_at {U : List S109} (h : U.all impl_Meet_73.ok = true) {i j : Nat} (hi : i < U.length) (hj : j < U.length) : ltI U i j = mlt U[i] U[j] := by
  rw [Bool.eq_iff_iff]
  unfold ltI mlt
  rw [impl_Meet_73.lt_iff h, less_iff, trip_at hi, trip_at hj]
/-- What the sorted list S is of the list U. -/
structure Srt (U S : List S109) (P : List Nat) : Prop where
  perm : P.Perm (List.range U.length)
  asc : P.Pairwise (fun i j => Stable.lx (ltI U) i j = true)
  is : S = P.map fun i => U.getD i z109
theorem srt_nil : Srt [] [] [] := ⟨List.Perm.refl _, List.Pairwise.nil, rfl⟩
theorem srt_len {U S : List S109} {P : List Nat} (h : Srt U S P) : S.length = U.length ∧ P.length = U.length := by
  have := h.perm.length_eq
  rw [List.length_range] at this
  rw [h.is, List.length_map]
  exact ⟨this, this⟩
theorem srt_mem {U S : List S109} {P : List Nat} (h : Srt U S P) {i : Nat} (hi : i ∈ P) : i < U.length := List.mem_range.1 (h.perm.mem_iff.1 hi)
theorem lx_append {U : List S109} {m : S109} (h : (U ++ [m]).all impl_Meet_73.ok = true) {i j : Nat} (hi : i < U.length) (hj : j < U.length) : Stable.lx (ltI (U ++ [m])) i j = Stable.lx (ltI U) i j := by
  have h1 : U.all impl_Meet_73.ok = true := by
    rw [List.all_append, Bool.and_eq_true] at h
    exact h.1
  have hi' : i < (U ++ [m]).length := by rw [List.length_append]; omega
  have hj' : j < (U ++ [m]).length := by rw [List.length_append]; omega
  unfold Stable.lx
  rw [ltI_at h hi' hj', ltI_at h hj' hi', ltI_at h1 hi hj, ltI_at h1 hj hi, List.getElem_append_left hi, List.getElem_append_left hj]
theorem srt_put {U S : List S109} {P : List Nat} (h : Srt U S P) (m : S109) (hok : (U ++ [m]).all impl_Meet_73.ok = true) (k : Nat) (hk : k ≤ S.length) (hhi : ∀ q (hq : q < S.length), k ≤ q → mlt m S[q] = true) (hlo : ∀ q (hq : q < S.length), q < k → mlt m S[q] = false) :
    Srt (U ++ [m]) (S.take k ++ [m] ++ S.drop k) (P.take k ++ [U.length] ++ P.drop k) := by
  obtain ⟨l1, l2⟩ := srt_len h
  have hU : U.all impl_Meet_73.ok = true := by
    rw [List.all_append, Bool.and_eq_true] at hok
    exact hok.1
  have hS := impl_Meet_73.swo hok
  have hn : U.length < (U ++ [m]).length := by rw [List.length_append, List.length_singleton]; omega
  have hm : (U ++ [m])[U.length] = m := by rw [List.getElem_append_right (Nat.le_refl _)]; simp
  have hPS : ∀ q (hq : q < P.length), S[q]'(by omega) = U[P[q]]'(srt_mem h (List.getElem_mem hq)) := by
    intro q hq
    have e := h.is
    subst e
    rw [List.getElem_map, getD_lt (srt_mem h (List.getElem_mem hq))]
  have hlt1 : ∀ q (hq : q < P.length), ltI (U ++ [m]) U.length P[q] = mlt m (S[q]'(by omega)) := by
    intro q hq
    have hp := srt_mem h (List.getElem_mem hq)
    rw [ltI_at hok hn (by rw [List.length_append]; omega), hm, List.getElem_append_left hp, hPS q hq]
  have hlow : ∀ q (hq : q < P.length), q < k → Stable.lx (ltI (U ++ [m])) P[q] U.length = true := fun q hq hqk => by
    have hp := srt_mem h (List.getElem_mem hq)
    refine Stable.lx_tag ?_ hp
    rw [hlt1 q hq]
    exact hlo q (by omega) hqk
  have hhigh : ∀ q (hq : q < P.length), k ≤ q → Stable.lx (ltI (U ++ [m])) U.length P[q] = true := fun q hq hqk => by
    refine Stable.lx_of ?_
    rw [hlt1 q hq]
    exact hhi q (by omega) hqk
  refine ⟨?_, ?_, ?_⟩
  · rw [List.length_append, List.length_singleton, List.range_succ]
    refine List.Perm.trans ?_ (h.perm.append_right _)
    refine List.Perm.trans ((List.perm_append_comm (l₁ := P.take k) (l₂ := [U.length])).append_right _) ?_
    rw [List.append_assoc, List.take_append_drop]
    exact List.perm_append_comm
  · have hP := h.asc
    rw [← List.take_append_drop k P, List.pairwise_append] at hP
    obtain ⟨a1, a2, a3⟩ := hP
    have low : ∀ i ∈ P.take k, i < U.length := fun i hi => srt_mem h (List.mem_of_mem_take hi)
    have high : ∀ i ∈ P.drop k, i < U.length := fun i hi => srt_mem h (List.mem_of_mem_drop hi)
    have low2 : ∀ i ∈ P.take k, Stable.lx (ltI (U ++ [m])) i U.length = true := fun i hi => by
      obtain ⟨q, hq, rfl⟩ := List.getElem_of_mem hi
      rw [List.length_take] at hq
      rw [List.getElem_take]
      exact hlow q (by omega) (by omega)
    have high2 : ∀ i ∈ P.drop k, Stable.lx (ltI (U ++ [m])) U.length i = true := fun i hi => by
      obtain ⟨q, hq, rfl⟩ := List.getElem_of_mem hi
      rw [List.length_drop] at hq
      rw [List.getElem_drop]
      exact hhigh (k + q) (by omega) (by omega)
    rw [List.pairwise_append, List.pairwise_append]
    refine ⟨⟨a1.imp_of_mem (fun {i j} hi hj hij => by rw [lx_append hok (low i hi) (low j hj)]; exact hij), List.pairwise_singleton _ _, fun i hi j hj => by rw [List.mem_singleton.1 hj]; exact low2 i hi⟩, a2.imp_of_mem (fun {i j} hi hj hij => by rw [lx_append hok (high i hi) (high j hj)]; exact hij), fun i hi j hj => ?_⟩
    rcases List.mem_append.1 hi with hi | hi
    · rw [lx_append hok (low i hi) (high j hj)]; exact a3 i hi j hj
    · rw [List.mem_singleton.1 hi]; exact high2 j hj
  · have hmap : ∀ Q : List Nat, (∀ i ∈ Q, i < U.length) → Q.map (fun i => (U ++ [m]).getD i z109) = Q.map (fun i => U.getD i z109) := fun Q hQ => by
      apply List.map_congr_left
      intro i hi
      have := hQ i hi
      rw [getD_lt this, getD_lt (by rw [List.length_append]; omega), List.getElem_append_left this]
    rw [List.map_append, List.map_append, List.map_singleton, getD_lt hn, hm, hmap _ (fun i hi => srt_mem h (List.mem_of_mem_take hi)), hmap _ (fun i hi => srt_mem h (List.mem_of_mem_drop hi)), List.map_take, List.map_drop, ← h.is]
theorem srt_end {U S : List S109} {P : List Nat} (h : Srt U S P) (hok : U.all impl_Meet_73.ok = true) (hl : U.length ≤ 40) : impl_Meet_73.f U = some S := by
  have hS := impl_Meet_73.swo hok
  have e : (List.range U.length).mergeSort (impl_Meet_73.le U) = P := by
    refine List.Perm.eq_of_pairwise (le := fun i j => impl_Meet_73.le U i j = true) ?_ ?_ ?_ ((List.mergeSort_perm _ _).trans h.perm.symm)
    · intro a b _ _ h1 h2
      unfold impl_Meet_73.le at h1 h2
      rw [Bool.not_eq_true'] at h1 h2
      refine Classical.byContradiction fun hne => ?_
      rcases Stable.lx_total (lt := ltOf (Stable.cmpM (U.map impl_Meet_73.trip))) hne with c | c
      · rw [h2] at c; cases c
      · rw [h1] at c; cases c
    · refine List.pairwise_mergeSort ?_ ?_ _
      · intro a b c h1 h2
        unfold impl_Meet_73.le at h1 h2 ⊢
        rw [Bool.not_eq_true'] at h1 h2 ⊢
        exact (Stable.swo_lx hS).ntrans c b a h2 h1
      · intro a b
        unfold impl_Meet_73.le
        cases c : Stable.lx (ltOf (Stable.cmpM (U.map impl_Meet_73.trip))) b a with
        | false => rfl
        | true => rw [Stable.lx_not hS c]; rfl
    · exact h.asc.imp (fun {i j} hij => by
        unfold impl_Meet_73.le
        rw [Bool.not_eq_true']
        exact Stable.lx_not hS hij)
  unfold impl_Meet_73.f
  rw [if_pos ⟨hl, hok⟩, e, h.is]
/-- A sorted list in places: what is not above one is not above what lies behind it. -/
theorem srt_down {U S : List S109} {P : List Nat} (h : Srt U S P) (hok : U.all impl_Meet_73.ok = true) {p q : Nat} (hq : q < S.length) (hpq : p ≤ q) : mlt S[q] (S[p]'(by omega)) = false := by
  obtain ⟨l1, l2⟩ := srt_len h
  have hS := impl_Meet_73.swo hok
  have e := h.is
  subst e
  rw [List.getElem_map, List.getElem_map]
  rw [List.length_map] at hq
  have a := srt_mem h (List.getElem_mem (l := P) (n := p) (by omega))
  have b := srt_mem h (List.getElem_mem (l := P) (n := q) (by omega))
  rw [getD_lt a, getD_lt b, ← ltI_at hok b a]
  by_cases c : p = q
  · subst c; exact hS.irrefl _
  · exact Stable.lx_anti hS ((List.pairwise_iff_getElem.1 h.asc) p q (by omega) (by omega) (by omega))
theorem mlt_up {a b c : S109} (hb : impl_Meet_73.ok b = true) (ha : impl_Meet_73.ok a = true) (hc : impl_Meet_73.ok c = true) (h1 : mlt a b = false) (h2 : mlt b c = false) : mlt a c = false := by
  obtain ⟨_, _, a2, _⟩ := impl_Meet_73.ok_iff.1 ha
  obtain ⟨_, _, b2, _⟩ := impl_Meet_73.ok_iff.1 hb
  obtain ⟨_, _, c2, _⟩ := impl_Meet_73.ok_iff.1 hc
  cases h : mlt a c with
  | false => rfl
  | true =>
    unfold mlt at *
    have := le_less (p := (b.f1, b.f2)) (q := (a.f1, a.f2)) (r := (c.f1, c.f2)) (by dsimp only; omega) (by dsimp only; omega) (by dsimp only; omega) h1 h
    rw [h2] at this; cases this
/-! #### both loops -/
theorem axis_small {i o : Int × Int} (b : Bool) {x dx lo hi : Int} (hi_ : Small i) (ho : Small o) (hx : -100000 ≤ x ∧ x ≤ 100000) (hd : -100000 ≤ dx ∧ dx ≤ 100000) (hl : -200000 ≤ lo ∧ lo ≤ 200000) (hh : -200000 ≤ hi ∧ hi ≤ 200000) : Small (axisV i o b x dx lo hi).1 ∧ Small (axisV i o b x dx lo hi).2.1 := by
  unfold axisV
  by_cases h0 : dx = 0
  · rw [if_pos h0]; exact ⟨hi_, ho⟩
  · obtain ⟨s1, s2⟩ := inF_small hx hd h0 hl hh
    rw [if_neg h0]
    refine ⟨?_, ?_⟩
    · dsimp only; split
      · exact red_small s1
      · exact hi_
    · dsimp only; split
      · exact red_small s2
      · exact ho
/-- The place of a meeting in a sorted list. -/
def posK (S : List S109) (m : S109) : Nat → Nat
  | 0 => 0
  | t + 1 => if mlt m (S.getD t z109) = true then posK S m t else t + 1
theorem posK_le (S : List S109) (m : S109) : ∀ t, posK S m t ≤ t
  | 0 => Nat.le_refl _
  | t + 1 => by
    unfold posK
    split
    · have := posK_le S m t; omega
    · exact Nat.le_refl _
theorem posK_hi (S : List S109) (m : S109) : ∀ t, ∀ q, posK S m t ≤ q → q < t → mlt m (S.getD q z109) = true
  | 0 => fun q _ h => by omega
  | t + 1 => fun q h1 h2 => by
    unfold posK at h1
    split at h1
    · rename_i c
      by_cases e : q = t
      · subst e; exact c
      · exact posK_hi S m t q h1 (by omega)
    · omega
theorem posK_lo (S : List S109) (m : S109) : ∀ t, 0 < posK S m t → mlt m (S.getD (posK S m t - 1) z109) = false
  | 0 => fun h => by unfold posK at h; omega
  | t + 1 => fun h => by
    unfold posK at h ⊢
    split
    · rename_i c
      rw [if_pos c] at h
      exact posK_lo S m t h
    · rename_i c
      rw [Nat.add_sub_cancel]
      rw [Bool.not_eq_true] at c
      exact c
def putS (S : List S109) (m : S109) : List S109 := S.take (posK S m S.length) ++ [m] ++ S.drop (posK S m S.length)
theorem srt_putS {U S : List S109} {P : List Nat} (h : Srt U S P) (m : S109) (hok : (U ++ [m]).all impl_Meet_73.ok = true) : ∃ P', Srt (U ++ [m]) (putS S m) P' := by
  obtain ⟨l1, l2⟩ := srt_len h
  have hU : U.all impl_Meet_73.ok = true := by rw [List.all_append, Bool.and_eq_true] at hok; exact hok.1
  have hm : impl_Meet_73.ok m = true := by rw [List.all_append, Bool.and_eq_true, List.all_cons, Bool.and_eq_true] at hok; exact hok.2.1
  have hSok : ∀ q (hq : q < S.length), impl_Meet_73.ok S[q] = true := fun q hq => by
    have e := h.is
    subst e
    rw [List.length_map] at hq
    have a := srt_mem h (List.getElem_mem (l := P) (n := q) hq)
    rw [List.getElem_map, getD_lt a]
    exact List.all_eq_true.1 hU _ (List.getElem_mem a)
  refine ⟨_, srt_put h m hok (posK S m S.length) (posK_le S m _) (fun q hq hk => ?_) (fun q hq hk => ?_)⟩
  · have := posK_hi S m S.length q hk hq
    rwa [getD_lt hq] at this
  · have h0 : 0 < posK S m S.length := by omega
    have hl := posK_le S m S.length
    have h1 := posK_lo S m S.length h0
    have hk1 : posK S m S.length - 1 < S.length := by omega
    rw [getD_lt hk1] at h1
    exact mlt_up (hSok _ hk1) hm (hSok _ hq) h1 (srt_down h hU hk1 (by omega))
theorem ok_small {m : S109} (h : impl_Meet_73.ok m = true) : Small (m.f1, m.f2) := by
  obtain ⟨a, b, c, d⟩ := impl_Meet_73.ok_iff.1 h
  exact ⟨by dsimp only; omega, b, c, d⟩
theorem spec_put (x y dx dy : Int) (S : List S109) (hS : S.all impl_Meet_73.ok = true) (hl : S.length ≤ 40) (l : List S100) (i : Nat) (hi : i < l.length) (hn : l.length ≤ 40) (m : S109) (hm0 : m.f0 = (i : Int)) (hm : impl_Meet_73.ok m = true) (v : List S109 × Bool) (hv : Ev (fun k => spec_RayMeets.l0 k x y dx dy (putS S m) l (l.length : Int) ((i + 1 : Nat) : Int)) v) :
    ∀ t, t ≤ S.length → posK S m t = posK S m S.length → Ev (fun k => spec_RayMeets.l1 k x y dx dy S (i : Int) (t : Int) l (l.length : Int) (i : Int) m.f1 m.f2) v := by
  have em : (⟨(i : Int), m.f1, m.f2⟩ : S109) = m := by rw [← hm0]
  have fin : ∀ t, t ≤ S.length → t = posK S m S.length → Ev (fun k => spec_RayMeets.l0 k x y dx dy (S.take t ++ [m] ++ S.drop t) l (l.length : Int) ((i + 1 : Nat) : Int)) v := fun t _ e => by rw [e]; exact hv
  intro t
  induction t with
  | zero =>
    intro ht he
    have e0 : 0 = posK S m S.length := he
    refine ev_succ ?_
    simp only [spec_RayMeets.l1, if_neg (show ¬ ((0 : Nat) : Int) > 0 by omega), if_pos (show (0 : Int) ≤ ((0 : Nat) : Int) by omega), if_pos (show ((0 : Nat) : Int) ≤ (S.length : Int) by omega), toNat_cast, Option.bind_some, List.nil_append, em, succ_cast hi (by omega)]
    simp only [if_pos (show ([] : List S109).length + (S.take 0).length < 5864062014805 by rw [List.length_take, List.length_nil]; omega), if_pos (show (S.take 0).length < 5864062014805 by rw [List.length_take]; omega), if_pos (show (S.take 0 ++ [m]).length + (S.drop 0).length < 5864062014805 by rw [List.length_append, List.length_take, List.length_drop, List.length_singleton]; omega)]
    exact fin 0 (Nat.zero_le _) e0
  | succ t ih =>
    intro ht he
    have hlt : t < S.length := by omega
    have hw : wrap64 (((t + 1 : Nat) : Int) - 1) = (t : Int) := by rw [wrap_small (by omega) (by omega)]; omega
    have hr : rd_T109 S (t : Int) = S[t] := by simp [rd_T109, hlt]
    have hso := List.all_eq_true.1 hS _ (List.getElem_mem hlt)
    have hless : spec_l9Less.f m.f1 m.f2 S[t].f1 S[t].f2 = some (mlt m S[t]) := spec_less (ok_small hm) (ok_small hso)
    refine ev_succ ?_
    simp only [spec_RayMeets.l1, if_pos (show ((t + 1 : Nat) : Int) > 0 by omega), hw, if_pos (show (0 : Int) ≤ (t : Int) by omega), if_pos (show (t : Int) < (S.length : Int) by omega), hr, hless, Option.bind_some]
    by_cases c : mlt m S[t] = true
    · simp only [if_pos c]
      refine ih (by omega) ?_
      rw [← he]
      conv => rhs; unfold posK
      rw [getD_lt hlt, if_pos c]
    · simp only [if_neg c, if_pos (show (0 : Int) ≤ ((t + 1 : Nat) : Int) by omega), if_pos (show ((t + 1 : Nat) : Int) ≤ (S.length : Int) by omega), toNat_cast, List.nil_append, em, succ_cast hi (by omega)]
      simp only [if_pos (show ([] : List S109).length + (S.take (t + 1)).length < 5864062014805 by rw [List.length_take, List.length_nil]; omega), if_pos (show (S.take (t + 1)).length < 5864062014805 by rw [List.length_take]; omega), if_pos (show (S.take (t + 1) ++ [m]).length + (S.drop (t + 1)).length < 5864062014805 by rw [List.length_append, List.length_take, List.length_drop, List.length_singleton]; omega)]
      refine fin (t + 1) ht ?_
      rw [← he]
      unfold posK
      rw [getD_lt hlt, if_neg c]
/-- The meeting with the shape i, if it is met. -/
def meetOf (s : S100) (x y dx dy : Int) (i : Nat) : Option S109 :=
  if s.f0 = 1 ∧ hitB x y dx dy s.f1 s.f2 (s.f1 + s.f3) (s.f2 + s.f4) = true then some ⟨(i : Int), (red (bothF x y dx dy s.f1 s.f2 (s.f1 + s.f3) (s.f2 + s.f4))).1, (red (bothF x y dx dy s.f1 s.f2 (s.f1 + s.f3) (s.f2 + s.f4))).2⟩ else none
def meetsU (l : List S100) (x y dx dy : Int) : Nat → Nat → List S109 → List S109
  | 0, _, U => U
  | d + 1, i, U => match meetOf (l.getD i z100) x y dx dy i with
    | none => meetsU l x y dx dy d (i + 1) U
    | some m => meetsU l x y dx dy d (i + 1) (U ++ [m])
structure Ray (x y dx dy : Int) : Prop where
  hx : -100000 ≤ x ∧ x ≤ 100000
  hy : -100000 ≤ y ∧ y ≤ 100000
  hdx : -100000 ≤ dx ∧ dx ≤ 100000
  hdy : -100000 ≤ dy ∧ dy ≤ 100000
  hne : ¬ (dx = 0 ∧ dy = 0)
theorem good_parts {s : S100} (h : sB s = true) : (-100000 ≤ s.f1 ∧ s.f1 ≤ 100000) ∧ (-100000 ≤ s.f2 ∧ s.f2 ≤ 100000) ∧ (1 ≤ s.f3 ∧ s.f3 ≤ 1000) ∧ (s.f0 = 1 → 1 ≤ s.f4 ∧ s.f4 ≤ 1000) := by
  unfold sB shapeB at h
  simp only [Bool.and_eq_true, Bool.or_eq_true, inB_iff, decide_eq_true_eq] at h
  obtain ⟨a, b, c, d⟩ := h
  refine ⟨a, b, c, fun e => ?_⟩
  rcases d with d | d
  · exact d.2
  · omega
theorem boxed_of {s : S100} {x y dx dy : Int} (h : sB s = true) (h1 : s.f0 = 1) (R : Ray x y dx dy) : Boxed x y dx dy s.f1 s.f2 (s.f1 + s.f3) (s.f2 + s.f4) := by
  obtain ⟨a, b, c, d⟩ := good_parts h
  have d := d h1
  exact ⟨R.hx, R.hy, R.hdx, R.hdy, by omega, by omega, by omega, by omega, by omega, by omega⟩
theorem both_fine {x y dx dy x0 y0 x1 y1 : Int} (B : Boxed x y dx dy x0 y0 x1 y1) : Fine (bothF x y dx dy x0 y0 x1 y1) := by
  have fx := from_fine B.hx B.hdx B.hx0 B.hx1
  have fy := from_fine B.hy B.hdy B.hy0 B.hy1
  unfold bothF
  split <;> assumption
theorem red_fine {p : Int × Int} (h : Fine p) : Fine (red p) := by
  have s := red_small h.small
  refine ⟨?_, s.hi, s.pos, s.le⟩
  unfold red
  exact Int.ediv_nonneg h.lo (by omega)
theorem meet_ok {s : S100} {x y dx dy : Int} (h : sB s = true) (R : Ray x y dx dy) {i : Nat} {m : S109} (hm : meetOf s x y dx dy i = some m) : impl_Meet_73.ok m = true ∧ m.f0 = (i : Int) := by
  unfold meetOf at hm
  split at hm
  · rename_i c
    obtain rfl := Option.some.inj hm
    have f := red_fine (both_fine (boxed_of h c.1 R))
    exact ⟨impl_Meet_73.ok_iff.2 ⟨f.lo, f.hi, f.pos, f.le⟩, rfl⟩
  · cases hm
theorem spec_main (l : List S100) (hl : l.length ≤ 40) (hs : l.all sB = true) (x y dx dy : Int) (R : Ray x y dx dy) (d : Nat) : ∀ (i : Nat) (U S : List S109) (P : List Nat), l.length - i = d → i ≤ l.length → Srt U S P → U.all impl_Meet_73.ok = true → U.length ≤ i →
    ∃ S' P', Srt (meetsU l x y dx dy d i U) S' P' ∧ (meetsU l x y dx dy d i U).all impl_Meet_73.ok = true ∧ (meetsU l x y dx dy d i U).length ≤ l.length ∧ Ev (fun k => spec_RayMeets.l0 k x y dx dy S l (l.length : Int) (i : Int)) (S', true) := by
  induction d with
  | zero =>
    intro i U S P hd hi hS hok hU
    refine ⟨S, P, hS, hok, by unfold meetsU; omega, ev_succ ?_⟩
    simp only [spec_RayMeets.l0, if_neg (show ¬ (i : Int) < (l.length : Int) by omega)]
    exact Ev.now _
  | succ d ih =>
    intro i U S P hd hi hS hok hU
    have hlt : i < l.length := by omega
    have hg := List.all_eq_true.1 hs _ (List.getElem_mem hlt)
    obtain ⟨l1, _⟩ := srt_len hS
    have hSok : S.all impl_Meet_73.ok = true := by
      have e := hS.is
      subst e
      rw [List.all_eq_true]
      intro z hz
      obtain ⟨q, hq, rfl⟩ := List.mem_map.1 hz
      have a := srt_mem hS hq
      rw [getD_lt a]
      exact List.all_eq_true.1 hok _ (List.getElem_mem a)
    unfold meetsU
    rw [show l.getD i z100 = l[i] by simp [hlt]]
    have skip : meetOf l[i] x y dx dy i = none → ∃ S' P', Srt (meetsU l x y dx dy d (i + 1) U) S' P' ∧ (meetsU l x y dx dy d (i + 1) U).all impl_Meet_73.ok = true ∧ (meetsU l x y dx dy d (i + 1) U).length ≤ l.length ∧ Ev (fun k => spec_RayMeets.l0 k x y dx dy S l (l.length : Int) ((i + 1 : Nat) : Int)) (S', true) := fun _ => ih (i + 1) U S P (by omega) (by omega) hS hok (by omega)
    by_cases c1 : l[i].f0 = 1
    · have B := boxed_of hg c1 R
      obtain ⟨gx, gy, gw, gh⟩ := good_parts hg
      have gh := gh c1
      have hb : boundsV l[i].f0 l[i].f1 l[i].f2 l[i].f3 l[i].f4 = (l[i].f1, l[i].f2, l[i].f1 + l[i].f3, l[i].f2 + l[i].f4) := by
        unfold boundsV
        rw [if_pos c1, wrap_small (by omega) (by omega), wrap_small (by omega) (by omega)]
      have h0 : Small ((0, 1) : Int × Int) := ⟨by decide, by decide, by decide, by decide⟩
      have h1 : Small ((1, 1) : Int × Int) := ⟨by decide, by decide, by decide, by decide⟩
      obtain ⟨hk, hin⟩ := hit_same B R.hne
      have a1 := spec_axis (0, 1) (1, 1) false x dx l[i].f1 (l[i].f1 + l[i].f3) h0 h1 B.hx B.hdx B.hx0 B.hx1 B.hxx
      have s1 := axis_small (i := (0, 1)) (o := (1, 1)) false (lo := l[i].f1) (hi := l[i].f1 + l[i].f3) h0 h1 B.hx B.hdx B.hx0 B.hx1
      have a2 := spec_axis (axisV (0, 1) (1, 1) false x dx l[i].f1 (l[i].f1 + l[i].f3)).1 (axisV (0, 1) (1, 1) false x dx l[i].f1 (l[i].f1 + l[i].f3)).2.1 (axisV (0, 1) (1, 1) false x dx l[i].f1 (l[i].f1 + l[i].f3)).2.2.1 y dy l[i].f2 (l[i].f2 + l[i].f4) s1.1 s1.2 B.hy B.hdy B.hy0 B.hy1 B.hyy
      have s2 := axis_small (axisV (0, 1) (1, 1) false x dx l[i].f1 (l[i].f1 + l[i].f3)).2.2.1 (lo := l[i].f2) (hi := l[i].f2 + l[i].f4) s1.1 s1.2 B.hy B.hdy B.hy0 B.hy1
      -- behind both axes
      have tail : ∀ v : AxisV, v = endV x y dx dy l[i].f1 l[i].f2 (l[i].f1 + l[i].f3) (l[i].f2 + l[i].f4) → Small v.1 → Small v.2.1 → ∃ S' P', Srt (match meetOf l[i] x y dx dy i with | none => meetsU l x y dx dy d (i + 1) U | some m => meetsU l x y dx dy d (i + 1) (U ++ [m])) S' P' ∧ (match meetOf l[i] x y dx dy i with | none => meetsU l x y dx dy d (i + 1) U | some m => meetsU l x y dx dy d (i + 1) (U ++ [m])).all impl_Meet_73.ok = true ∧ (match meetOf l[i] x y dx dy i with | none => meetsU l x y dx dy d (i + 1) U | some m => meetsU l x y dx dy d (i + 1) (U ++ [m])).length ≤ l.length ∧ Ev (fun k => spec_RayMeets.j2 k x y dx dy S (i : Int) v.2.2.1 v.2.2.2 l (l.length : Int) (i : Int) v.1.1 v.1.2 v.2.1.1 v.2.1.2) (S', true) := by
        intro v ev sv1 sv2
        have hj : ∀ (b : Bool) (w : List S109 × Bool), keepB v = !b → (b = true → Ev (fun k => spec_RayMeets.l0 k x y dx dy S l (l.length : Int) ((i + 1 : Nat) : Int)) w) → (b = false → Ev (fun k => spec_RayMeets.l1 k x y dx dy S (i : Int) (S.length : Int) l (l.length : Int) (i : Int) v.1.1 v.1.2) w) → Ev (fun k => spec_RayMeets.j2 k x y dx dy S (i : Int) v.2.2.1 v.2.2.2 l (l.length : Int) (i : Int) v.1.1 v.1.2 v.2.1.1 v.2.1.2) w := by
          intro b w hb2 h1 h2
          have j3 : ∀ t : Bool, t = b → Ev (fun k => spec_RayMeets.j3 k x y dx dy S (i : Int) l (l.length : Int) (i : Int) t v.1.1 v.1.2) w := by
            rintro t rfl
            refine ev_succ ?_
            cases t with
            | true => simp only [spec_RayMeets.j3, if_true, succ_cast hlt (by omega)]; exact h1 rfl
            | false => simp only [spec_RayMeets.j3, Bool.false_eq_true, if_false]; exact h2 rfl
          refine ev_succ ?_
          unfold keepB at hb2
          cases e1 : v.2.2.2 with
          | false =>
            rw [e1] at hb2
            simp only [spec_RayMeets.j2, Bool.false_eq_true, if_false]
            exact j3 true (by cases b with | true => rfl | false => cases hb2)
          | true =>
            rw [e1, Bool.true_and] at hb2
            cases e2 : v.2.2.1 with
            | false =>
              rw [e2, Bool.false_and] at hb2
              simp only [spec_RayMeets.j2, Bool.false_eq_true, if_false, if_true]
              exact j3 false (by cases b with | true => cases hb2 | false => rfl)
            | true =>
              rw [e2, Bool.true_and] at hb2
              simp only [spec_RayMeets.j2, if_true, spec_less sv2 sv1, Option.bind_some]
              exact j3 _ (by rw [← Bool.not_inj_iff]; exact hb2)
        have hk2 : keepB v = hitB x y dx dy l[i].f1 l[i].f2 (l[i].f1 + l[i].f3) (l[i].f2 + l[i].f4) := by rw [ev]; exact hk
        by_cases ch : hitB x y dx dy l[i].f1 l[i].f2 (l[i].f1 + l[i].f3) (l[i].f2 + l[i].f4) = true
        · have hm : meetOf l[i] x y dx dy i = some ⟨(i : Int), v.1.1, v.1.2⟩ := by
            unfold meetOf
            rw [if_pos ⟨c1, ch⟩, ev, hin (by rw [hk]; exact ch)]
          obtain ⟨mo, m0⟩ := meet_ok hg R hm
          rw [hm]
          have hok2 : (U ++ [(⟨(i : Int), v.1.1, v.1.2⟩ : S109)]).all impl_Meet_73.ok = true := by
            rw [List.all_append, hok, List.all_cons, mo]; rfl
          obtain ⟨P2, hS2⟩ := srt_putS hS _ hok2
          obtain ⟨S', P', h1', h2', h3', h4'⟩ := ih (i + 1) _ _ P2 (by omega) (by omega) hS2 hok2 (by rw [List.length_append, List.length_singleton]; omega)
          refine ⟨S', P', h1', h2', h3', hj false _ (by rw [hk2, ch]; rfl) (fun h => by cases h) (fun _ => ?_)⟩
          exact spec_put x y dx dy S hSok (by omega) l i hlt hl ⟨(i : Int), v.1.1, v.1.2⟩ rfl mo _ h4' S.length (Nat.le_refl _) rfl
        · have hm : meetOf l[i] x y dx dy i = none := by
            unfold meetOf
            rw [if_neg (fun h => ch h.2)]
          obtain ⟨S', P', h1', h2', h3', h4'⟩ := skip hm
          rw [hm]
          rw [Bool.not_eq_true] at ch
          exact ⟨S', P', h1', h2', h3', hj true _ (by rw [hk2, ch]; rfl) (fun _ => h4') (fun h => by cases h)⟩
      have go : ∀ v : AxisV, v = endV x y dx dy l[i].f1 l[i].f2 (l[i].f1 + l[i].f3) (l[i].f2 + l[i].f4) → Small v.1 → Small v.2.1 → (∀ w, Ev (fun k => spec_RayMeets.j2 k x y dx dy S (i : Int) v.2.2.1 v.2.2.2 l (l.length : Int) (i : Int) v.1.1 v.1.2 v.2.1.1 v.2.1.2) w → Ev (fun k => spec_RayMeets.l0 k x y dx dy S l (l.length : Int) (i : Int)) w) → ∃ S' P', Srt (match meetOf l[i] x y dx dy i with | none => meetsU l x y dx dy d (i + 1) U | some m => meetsU l x y dx dy d (i + 1) (U ++ [m])) S' P' ∧ (match meetOf l[i] x y dx dy i with | none => meetsU l x y dx dy d (i + 1) U | some m => meetsU l x y dx dy d (i + 1) (U ++ [m])).all impl_Meet_73.ok = true ∧ (match meetOf l[i] x y dx dy i with | none => meetsU l x y dx dy d (i + 1) U | some m => meetsU l x y dx dy d (i + 1) (U ++ [m])).length ≤ l.length ∧ Ev (fun k => spec_RayMeets.l0 k x y dx dy S l (l.length : Int) (i : Int)) (S', true) := fun v e1 e2 e3 h => by
        obtain ⟨S', P', q1, q2, q3, q4⟩ := tail v e1 e2 e3
        exact ⟨S', P', q1, q2, q3, h _ q4⟩
      have hend : endV x y dx dy l[i].f1 l[i].f2 (l[i].f1 + l[i].f3) (l[i].f2 + l[i].f4) = if (axisV (0, 1) (1, 1) false x dx l[i].f1 (l[i].f1 + l[i].f3)).2.2.2 = true then axisV (axisV (0, 1) (1, 1) false x dx l[i].f1 (l[i].f1 + l[i].f3)).1 (axisV (0, 1) (1, 1) false x dx l[i].f1 (l[i].f1 + l[i].f3)).2.1 (axisV (0, 1) (1, 1) false x dx l[i].f1 (l[i].f1 + l[i].f3)).2.2.1 y dy l[i].f2 (l[i].f2 + l[i].f4) else axisV (0, 1) (1, 1) false x dx l[i].f1 (l[i].f1 + l[i].f3) := rfl
      by_cases c2 : (axisV (0, 1) (1, 1) false x dx l[i].f1 (l[i].f1 + l[i].f3)).2.2.2 = true
      · rw [if_pos c2] at hend
        refine go _ hend.symm s2.1 s2.2 (fun w hw => ev_succ ?_)
        simp only [spec_RayMeets.l0, if_pos (show (i : Int) < (l.length : Int) by omega), if_pos (show (0 : Int) ≤ (i : Int) by omega), rd100 hlt, if_pos c1, spec_bounds, hb, Option.bind_some]
        refine Ev.bind a1 ?_
        unfold six
        dsimp only
        simp only [if_pos c2]
        refine Ev.bind a2 ?_
        unfold six
        exact hw
      · rw [if_neg c2] at hend
        refine go _ hend.symm s1.1 s1.2 (fun w hw => ev_succ ?_)
        simp only [spec_RayMeets.l0, if_pos (show (i : Int) < (l.length : Int) by omega), if_pos (show (0 : Int) ≤ (i : Int) by omega), rd100 hlt, if_pos c1, spec_bounds, hb, Option.bind_some]
        refine Ev.bind a1 ?_
        unfold six
        dsimp only
        simp only [if_neg c2]
        exact hw
    · have hm : meetOf l[i] x y dx dy i = none := by unfold meetOf; rw [if_neg (fun h => c1 h.1)]
      obtain ⟨S', P', h1', h2', h3', h4'⟩ := skip hm
      rw [hm]
      refine ⟨S', P', h1', h2', h3', ev_succ ?_⟩
      simp only [spec_RayMeets.l0, if_pos (show (i : Int) < (l.length : Int) by omega), if_pos (show (0 : Int) ≤ (i : Int) by omega), rd100 hlt, if_neg c1, succ_cast hlt (by omega)]
      exact h4'
theorem impl_less {p q : Int × Int} (hp : -1048576 ≤ p.1 ∧ p.1 ≤ 1048576 ∧ 0 ≤ p.2 ∧ p.2 ≤ 1048576) (hq : -1048576 ≤ q.1 ∧ q.1 ≤ 1048576 ∧ 0 ≤ q.2 ∧ q.2 ≤ 1048576) : impl_part_less.f p.1 p.2 q.1 q.2 = some (lessB p q) := by
  have bnd : ∀ a b : Int, -1048576 ≤ a → a ≤ 1048576 → 0 ≤ b → b ≤ 1048576 → -9223372036854775808 ≤ a * b ∧ a * b ≤ 9223372036854775807 := fun a b h0 h1 h2 h3 => by
    have e1 : a * b ≤ 1048576 * b := Int.mul_le_mul_of_nonneg_right h1 h2
    have e2 : -1048576 * b ≤ a * b := Int.mul_le_mul_of_nonneg_right h0 h2
    omega
  unfold impl_part_less.f lessB
  have a := bnd p.1 q.2 hp.1 hp.2.1 hq.2.2.1 hq.2.2.2
  have b := bnd q.1 p.2 hq.1 hq.2.1 hp.2.2.1 hp.2.2.2
  rw [wrap_small a.1 a.2, wrap_small b.1 b.2]
theorem to_bnd {x dx lo hi : Int} (hx : -100000 ≤ x ∧ x ≤ 100000) (hd : -100000 ≤ dx ∧ dx ≤ 100000) (hl : -200000 ≤ lo ∧ lo ≤ 200000) (hh : -200000 ≤ hi ∧ hi ≤ 200000) : -1048576 ≤ (toF x dx lo hi).1 ∧ (toF x dx lo hi).1 ≤ 1048576 ∧ 0 ≤ (toF x dx lo hi).2 ∧ (toF x dx lo hi).2 ≤ 1048576 := by
  unfold toF
  by_cases h0 : dx = 0
  · rw [if_pos h0]; decide
  · rw [if_neg h0]
    obtain ⟨_, s⟩ := inF_small hx hd h0 hl hh
    exact ⟨s.lo, s.hi, by have := s.pos; omega, s.le⟩
theorem fine_bnd {p : Int × Int} (h : Fine p) : -1048576 ≤ p.1 ∧ p.1 ≤ 1048576 ∧ 0 ≤ p.2 ∧ p.2 ≤ 1048576 := ⟨by have := h.lo; omega, h.hi, by have := h.pos; omega, h.le⟩
theorem impl_main (l : List S100) (hl : l.length ≤ 40) (hs : l.all sB = true) (x y dx dy : Int) (R : Ray x y dx dy) (V : List S109) (d : Nat) : ∀ (i : Nat) (U : List S109), l.length - i = d → i ≤ l.length → U.length ≤ i → impl_Meet_73.f (meetsU l x y dx dy d i U) = some V →
    Ev (fun k => impl_RayMeets.l0 k x y dx dy U l (l.length : Int) (i : Int)) (V, true) := by
  induction d with
  | zero =>
    intro i U hd hi hU hV
    refine ev_succ ?_
    unfold meetsU at hV
    simp only [impl_RayMeets.l0, if_neg (show ¬ (i : Int) < (l.length : Int) by omega), hV, Option.bind_some]
    exact Ev.now _
  | succ d ih =>
    intro i U hd hi hU hV
    have hlt : i < l.length := by omega
    have hg := List.all_eq_true.1 hs _ (List.getElem_mem hlt)
    unfold meetsU at hV
    rw [show l.getD i z100 = l[i] by simp [hlt]] at hV
    refine ev_succ ?_
    by_cases c1 : l[i].f0 = 1
    · have B := boxed_of hg c1 R
      obtain ⟨gx, gy, gw, gh⟩ := good_parts hg
      have gh := gh c1
      have hb : boundsV l[i].f0 l[i].f1 l[i].f2 l[i].f3 l[i].f4 = (l[i].f1, l[i].f2, l[i].f1 + l[i].f3, l[i].f2 + l[i].f4) := by
        unfold boundsV
        rw [if_pos c1, wrap_small (by omega) (by omega), wrap_small (by omega) (by omega)]
      have fx := from_fine B.hx B.hdx B.hx0 B.hx1
      have fy := from_fine B.hy B.hdy B.hy0 B.hy1
      have fF := both_fine B
      have tx := to_bnd B.hx B.hdx B.hx0 B.hx1
      have ty := to_bnd B.hy B.hdy B.hy0 B.hy1
      have hj : ∀ F : Int × Int, F = bothF x y dx dy l[i].f1 l[i].f2 (l[i].f1 + l[i].f3) (l[i].f2 + l[i].f4) → Ev (fun k => impl_RayMeets.j2 k x y dx dy U (i : Int) (okB x dx l[i].f1 (l[i].f1 + l[i].f3)) (okB y dy l[i].f2 (l[i].f2 + l[i].f4)) l (l.length : Int) (i : Int) F.1 F.2 (toF x dx l[i].f1 (l[i].f1 + l[i].f3)).1 (toF x dx l[i].f1 (l[i].f1 + l[i].f3)).2 (toF y dy l[i].f2 (l[i].f2 + l[i].f4)).1 (toF y dy l[i].f2 (l[i].f2 + l[i].f4)).2) (V, true) := by
        rintro F rfl
        have skip : hitB x y dx dy l[i].f1 l[i].f2 (l[i].f1 + l[i].f3) (l[i].f2 + l[i].f4) = false → Ev (fun k => impl_RayMeets.l0 k x y dx dy U l (l.length : Int) ((i + 1 : Nat) : Int)) (V, true) := fun ch => by
          have hm : meetOf l[i] x y dx dy i = none := by unfold meetOf; rw [if_neg (fun h => by rw [ch] at h; cases h.2)]
          rw [hm] at hV
          exact ih (i + 1) U (by omega) (by omega) (by omega) hV
        refine ev_succ ?_
        cases o1 : okB x dx l[i].f1 (l[i].f1 + l[i].f3) with
        | false =>
          simp only [impl_RayMeets.j2, Bool.false_eq_true, if_false, succ_cast hlt (by omega)]
          exact skip (by unfold hitB; rw [o1]; rfl)
        | true =>
          cases o2 : okB y dy l[i].f2 (l[i].f2 + l[i].f4) with
          | false =>
            simp only [impl_RayMeets.j2, Bool.false_eq_true, if_false, if_true, succ_cast hlt (by omega)]
            exact skip (by unfold hitB; rw [o1, o2]; rfl)
          | true =>
            simp only [impl_RayMeets.j2, if_true, impl_less tx (fine_bnd fF), impl_less ty (fine_bnd fF), Option.bind_some, succ_cast hlt (by omega)]
            cases o3 : lessB (toF x dx l[i].f1 (l[i].f1 + l[i].f3)) (bothF x y dx dy l[i].f1 l[i].f2 (l[i].f1 + l[i].f3) (l[i].f2 + l[i].f4)) with
            | true =>
              simp only [if_true]
              exact skip (by unfold hitB; rw [o1, o2, o3]; rfl)
            | false =>
              cases o4 : lessB (toF y dy l[i].f2 (l[i].f2 + l[i].f4)) (bothF x y dx dy l[i].f1 l[i].f2 (l[i].f1 + l[i].f3) (l[i].f2 + l[i].f4)) with
              | true =>
                simp only [if_true, Bool.false_eq_true, if_false]
                exact skip (by unfold hitB; rw [o1, o2, o3, o4]; rfl)
              | false =>
                simp only [Bool.false_eq_true, if_false]
                have ch : hitB x y dx dy l[i].f1 l[i].f2 (l[i].f1 + l[i].f3) (l[i].f2 + l[i].f4) = true := by unfold hitB; rw [o1, o2, o3, o4]; rfl
                refine Ev.bind (impl_common_val _ fF.lo (by have := fF.pos; omega)) ?_
                obtain ⟨e, hg0, _⟩ := red_wrap (p := bothF x y dx dy l[i].f1 l[i].f2 (l[i].f1 + l[i].f3) (l[i].f2 + l[i].f4)) (by have := fF.lo; have := fF.hi; omega) (by have := fF.pos; omega) fF.le
                have hm : meetOf l[i] x y dx dy i = some ⟨(i : Int), (red (bothF x y dx dy l[i].f1 l[i].f2 (l[i].f1 + l[i].f3) (l[i].f2 + l[i].f4))).1, (red (bothF x y dx dy l[i].f1 l[i].f2 (l[i].f1 + l[i].f3) (l[i].f2 + l[i].f4))).2⟩ := by unfold meetOf; rw [if_pos ⟨c1, ch⟩]
                rw [hm] at hV
                have e1 := congrArg Prod.fst e
                have e2 := congrArg Prod.snd e
                dsimp only at e1 e2
                simp only [if_neg hg0, if_pos (show U.length < 5864062014805 by omega), e1, e2]
                exact ih (i + 1) _ (by omega) (by omega) (by rw [List.length_append, List.length_singleton]; omega) hV
      simp only [impl_RayMeets.l0, if_pos (show (i : Int) < (l.length : Int) by omega), if_pos (show (0 : Int) ≤ (i : Int) by omega), rd100 hlt, if_pos c1, impl_bounds, hb, Option.bind_some, impl_btw x dx _ _ B.hx B.hdx B.hx0 B.hx1, impl_btw y dy _ _ B.hy B.hdy B.hy0 B.hy1, impl_less (fine_bnd fx) (fine_bnd fy)]
      have eF : ∀ b : Bool, lessB (fromF x dx l[i].f1 (l[i].f1 + l[i].f3)) (fromF y dy l[i].f2 (l[i].f2 + l[i].f4)) = b → bothF x y dx dy l[i].f1 l[i].f2 (l[i].f1 + l[i].f3) (l[i].f2 + l[i].f4) = if b = true then fromF y dy l[i].f2 (l[i].f2 + l[i].f4) else fromF x dx l[i].f1 (l[i].f1 + l[i].f3) := fun b e => by unfold bothF; rw [e]
      cases o5 : lessB (fromF x dx l[i].f1 (l[i].f1 + l[i].f3)) (fromF y dy l[i].f2 (l[i].f2 + l[i].f4)) with
      | true =>
        simp only [if_true]
        exact hj _ (by rw [eF true o5]; rfl)
      | false =>
        simp only [Bool.false_eq_true, if_false]
        exact hj _ (by rw [eF false o5]; rfl)
    · have hm : meetOf l[i] x y dx dy i = none := by unfold meetOf; rw [if_neg (fun h => c1 h.1)]
      rw [hm] at hV
      simp only [impl_RayMeets.l0, if_pos (show (i : Int) < (l.length : Int) by omega), if_pos (show (0 : Int) ≤ (i : Int) by omega), rd100 hlt, if_neg c1, succ_cast hlt (by omega)]
      exact ih (i + 1) U (by omega) (by omega) (by omega) hV
/-- Both answer alike. -/
theorem rays (l : List S100) (x y dx dy : Int) : ∃ v : List S109 × Bool, Ev (fun k => spec_RayMeets.f k l x y dx dy) v ∧ Ev (fun k => impl_RayMeets.f k l x y dx dy) v ∧ v.1.length ≤ 40 := by
  have no1 : Ev (fun k => spec_RayMeets.j0 k l x y dx dy true) ([], false) := ev_succ (by simp only [spec_RayMeets.j0, if_true]; exact Ev.now _)
  have no2 : Ev (fun k => impl_RayMeets.j0 k l x y dx dy true) ([], false) := ev_succ (by simp only [impl_RayMeets.j0, if_true]; exact Ev.now _)
  have span : ∀ a : Int, impl_isSpan.f a = some (inB a (-100000) 100000) := fun a => by unfold impl_isSpan.f; rw [impl_in]; rfl
  have nope : (∀ k, spec_RayMeets.f k l x y dx dy = (spec_l9Shapes.f k l).bind fun t => if t = true then spec_RayMeets.j0 k l x y dx dy true else spec_RayMeets.j0 k l x y dx dy true) → (∀ k, impl_RayMeets.f k l x y dx dy = impl_RayMeets.j0 k l x y dx dy true) → ∃ v : List S109 × Bool, Ev (fun k => spec_RayMeets.f k l x y dx dy) v ∧ Ev (fun k => impl_RayMeets.f k l x y dx dy) v ∧ v.1.length ≤ 40 := fun h1 h2 => by
    refine ⟨([], false), ?_, ?_, Nat.zero_le _⟩
    · simp only [h1]
      refine Ev.bind (spec_shapes l) ?_
      cases shapesB l <;> simp only [if_true, Bool.false_eq_true, if_false] <;> exact no1
    · simp only [h2]
      exact no2
  cases hs : shapesB l with
  | false =>
    refine ⟨([], false), ?_, ?_, Nat.zero_le _⟩
    · unfold spec_RayMeets.f
      refine Ev.bind (spec_shapes l) ?_
      rw [hs]
      simp only [Bool.false_eq_true, if_false]
      exact no1
    · unfold impl_RayMeets.f
      simp only [impl_shapes, hs, Option.bind_some, Bool.false_eq_true, if_false]
      exact no2
  | true =>
    cases b1 : inB x (-100000) 100000 with
    | false => exact nope (fun k => by unfold spec_RayMeets.f; simp only [spec_in, b1, Option.bind_some, Bool.false_eq_true, if_false]) (fun k => by unfold impl_RayMeets.f; simp only [impl_shapes, hs, span, b1, Option.bind_some, Bool.false_eq_true, if_false, if_true])
    | true =>
    cases b2 : inB y (-100000) 100000 with
    | false => exact nope (fun k => by unfold spec_RayMeets.f; simp only [spec_in, b1, b2, Option.bind_some, Bool.false_eq_true, if_false, if_true]) (fun k => by unfold impl_RayMeets.f; simp only [impl_shapes, hs, span, b1, b2, Option.bind_some, Bool.false_eq_true, if_false, if_true])
    | true =>
    cases b3 : inB dx (-100000) 100000 with
    | false => exact nope (fun k => by unfold spec_RayMeets.f; simp only [spec_in, b1, b2, b3, Option.bind_some, Bool.false_eq_true, if_false, if_true]) (fun k => by unfold impl_RayMeets.f; simp only [impl_shapes, hs, span, b1, b2, b3, Option.bind_some, Bool.false_eq_true, if_false, if_true])
    | true =>
    cases b4 : inB dy (-100000) 100000 with
    | false => exact nope (fun k => by unfold spec_RayMeets.f; simp only [spec_in, b1, b2, b3, b4, Option.bind_some, Bool.false_eq_true, if_false, if_true]) (fun k => by unfold impl_RayMeets.f; simp only [impl_shapes, hs, span, b1, b2, b3, b4, Option.bind_some, Bool.false_eq_true, if_false, if_true])
    | true =>
    by_cases hz : dx = 0 ∧ dy = 0
    · have hy0 : (dy == 0) = true := beq_iff_eq.2 hz.2
      exact nope (fun k => by unfold spec_RayMeets.f; simp only [spec_in, b1, b2, b3, b4, Option.bind_some, if_true, if_pos hz.1, hy0]) (fun k => by unfold impl_RayMeets.f; simp only [impl_shapes, hs, span, b1, b2, b3, b4, Option.bind_some, if_true, if_pos hz.1, hy0])
    · have R : Ray x y dx dy := ⟨inB_iff.1 b1, inB_iff.1 b2, inB_iff.1 b3, inB_iff.1 b4, hz⟩
      have hl := hs
      unfold shapesB at hl
      obtain ⟨h1, h2⟩ := Bool.and_eq_true_iff.1 hl
      have hl40 : l.length ≤ 40 := by have := of_decide_eq_true h1; omega
      obtain ⟨S', P', q1, q2, q3, q4⟩ := spec_main l hl40 h2 x y dx dy R l.length 0 [] [] [] (by omega) (Nat.zero_le _) srt_nil rfl (Nat.le_refl _)
      have hv := srt_end q1 q2 (by omega)
      have him := impl_main l hl40 h2 x y dx dy R S' l.length 0 [] (by omega) (Nat.zero_le _) (Nat.le_refl _) hv
      have g1 : Ev (fun k => spec_RayMeets.j0 k l x y dx dy false) (S', true) := ev_succ (by simp only [spec_RayMeets.j0, Bool.false_eq_true, if_false]; exact q4)
      have g2 : Ev (fun k => impl_RayMeets.j0 k l x y dx dy false) (S', true) := ev_succ (by simp only [impl_RayMeets.j0, Bool.false_eq_true, if_false]; exact him)
      refine ⟨(S', true), ?_, ?_, by have := (srt_len q1).1; show S'.length ≤ 40; omega⟩
      · unfold spec_RayMeets.f
        refine Ev.bind (spec_shapes l) ?_
        simp only [hs, spec_in, b1, b2, b3, b4, Option.bind_some, if_true]
        by_cases c : dx = 0
        · simp only [if_pos c, show (dy == 0) = false from beq_eq_false_iff_ne.2 (fun h => hz ⟨c, h⟩)]
          exact g1
        · simp only [if_neg c]
          exact g1
      · unfold impl_RayMeets.f
        simp only [impl_shapes, hs, span, b1, b2, b3, b4, Option.bind_some, if_true]
        by_cases c : dx = 0
        · simp only [if_pos c, show (dy == 0) = false from beq_eq_false_iff_ne.2 (fun h => hz ⟨c, h⟩)]
          exact g2
        · simp only [if_neg c]
          exact g2
/-! #### meetings: held against one another, marked -/
theorem rd109 {l : List S109} {i : Nat} (h : i < l.length) : rd_T109 l (i : Int) = l[i] := by simp [rd_T109, h]
theorem eq_meets (l : List S109) (hl : l.length ≤ 17592186044416) : Ev (fun k => laws_eqMeetS.f k l l) true := by
  unfold laws_eqMeetS.f
  simp only [if_true]
  refine ev_trues (n := l.length) (fun k i => laws_eqMeetS.l0 k l l i) (fun _ _ => some true) (fun _ _ => Ev.now _) ?_ ?_
  · intro k i hi
    simp only [laws_eqMeetS.l0, if_pos (show (i : Int) < (l.length : Int) by omega), if_pos (show (0 : Int) ≤ (i : Int) by omega), laws_eqMeet.f, if_true, Option.bind_some, rd109 hi, succ_cast hi (by omega)]
  · intro k
    simp only [laws_eqMeetS.l0, if_neg (show ¬ (l.length : Int) < (l.length : Int) by omega)]
def markedM (ys : List S109) (n : Nat) : Prop := ys.length = n ∧ ∀ j (h : j < ys.length), ys[j] = (⟨1 + 3 * (j : Int), 2 + 3 * (j : Int), 3 + 3 * (j : Int)⟩ : S109)
theorem mark_meets_from (n : Nat) (hn : n ≤ 17592186044416) (d : Nat) : ∀ (i : Nat) (xs : List S109) (m : Int), n - i = d → i ≤ n → xs.length = n → m = 1 + 3 * (i : Int) → (∀ j (h : j < xs.length), j < i → xs[j] = (⟨1 + 3 * (j : Int), 2 + 3 * (j : Int), 3 + 3 * (j : Int)⟩ : S109)) → ∃ ys, markedM ys n ∧ Ev (fun k => laws_markMeetS.l0 k xs m (i : Int)) (1 + 3 * (n : Int), ys) := by
  induction d with
  | zero =>
    intro i xs m hd hi hx hm hj
    have : i = n := by omega
    refine ⟨xs, ⟨hx, fun j h => hj j h (by omega)⟩, ev_succ ?_⟩
    simp only [laws_markMeetS.l0, if_neg (show ¬ (i : Int) < (xs.length : Int) by omega)]
    rw [hm, this]
    exact Ev.now _
  | succ d ih =>
    intro i xs m hd hi hx hm hj
    have hlt : i < xs.length := by omega
    have e1 : wrap64 (m + 1) = m + 1 := wrap_small (by omega) (by omega)
    have e2 : wrap64 (m + 1 + 1) = m + 1 + 1 := wrap_small (by omega) (by omega)
    have e3 : wrap64 (m + 1 + 1 + 1) = m + 1 + 1 + 1 := wrap_small (by omega) (by omega)
    have es : wrap64 ((i : Int) + 1) = ((i + 1 : Nat) : Int) := by rw [wrap_small (by omega) (by omega)]; omega
    have hs0 : ∀ k, laws_markMeetS.l0 (k + 1) xs m (i : Int) = laws_markMeetS.l0 k (((xs.set i (⟨m, (xs[i]).f1, (xs[i]).f2⟩ : S109)).set i (⟨m, m + 1, (xs[i]).f2⟩ : S109)).set i (⟨m, m + 1, m + 1 + 1⟩ : S109)) (m + 1 + 1 + 1) ((i + 1 : Nat) : Int) := by
      intro k
      have hg : rd_T109 (xs.set i (⟨m, (xs[i]).f1, (xs[i]).f2⟩ : S109)) (i : Int) = (⟨m, (xs[i]).f1, (xs[i]).f2⟩ : S109) := by
        rw [rd109 (by rw [List.length_set]; exact hlt), List.getElem_set_self]
      have hg2 : rd_T109 ((xs.set i (⟨m, (xs[i]).f1, (xs[i]).f2⟩ : S109)).set i (⟨m, m + 1, (xs[i]).f2⟩ : S109)) (i : Int) = (⟨m, m + 1, (xs[i]).f2⟩ : S109) := by
        rw [rd109 (by rw [List.length_set, List.length_set]; exact hlt), List.getElem_set_self]
      simp only [laws_markMeetS.l0, if_pos (show (i : Int) < (xs.length : Int) by omega), if_pos (show (0 : Int) ≤ (i : Int) by omega), Option.bind_some, e1, e2, e3, es, toNat_cast, rd109 hlt, hg, hg2]
    obtain ⟨ys, hm2, hy⟩ := ih (i + 1) (((xs.set i (⟨m, (xs[i]).f1, (xs[i]).f2⟩ : S109)).set i (⟨m, m + 1, (xs[i]).f2⟩ : S109)).set i (⟨m, m + 1, m + 1 + 1⟩ : S109)) (m + 1 + 1 + 1) (by omega) (by omega) (by simp only [List.length_set]; exact hx) (by omega) (by
      intro j h h2
      by_cases e : j = i
      · subst e
        rw [List.getElem_set_self, hm]
        congr 1 <;> omega
      · rw [List.getElem_set_ne (fun h => e h.symm), List.getElem_set_ne (fun h => e h.symm), List.getElem_set_ne (fun h => e h.symm)]
        exact hj j (by simpa using h) (by omega))
    refine ⟨ys, hm2, ev_succ ?_⟩
    simp only [hs0]
    exact hy
theorem mark_meets (l : List S109) (hl : l.length ≤ 17592186044416) : ∃ ys, markedM ys l.length ∧ Ev (fun k => laws_markMeetS.f k l 1) (1 + 3 * (l.length : Int), ys) :=
  mark_meets_from l.length hl l.length 0 l 1 (by omega) (by omega) rfl (by omega) (fun j h h2 => absurd h2 (Nat.not_lt_zero _))
theorem held_meets_from (ys : List S109) (n : Nat) (hy : markedM ys n) (hn : n ≤ 17592186044416) (d : Nat) : ∀ (i : Nat) (m : Int), n - i = d → i ≤ n → m = 1 + 3 * (i : Int) → Ev (fun k => laws_heldMeetS.l0 k ys m (i : Int)) (1 + 3 * (n : Int)) := by
  obtain ⟨h1, h2⟩ := hy
  induction d with
  | zero =>
    intro i m hd hi hm
    have : i = n := by omega
    refine ev_succ ?_
    simp only [laws_heldMeetS.l0, if_neg (show ¬ (i : Int) < (ys.length : Int) by omega)]
    rw [hm, this]
    exact Ev.now _
  | succ d ih =>
    intro i m hd hi hm
    have hlt : i < ys.length := by omega
    have e1 : wrap64 (m + 1) = m + 1 := wrap_small (by omega) (by omega)
    have e2 : wrap64 (m + 1 + 1) = m + 1 + 1 := wrap_small (by omega) (by omega)
    have e3 : wrap64 (m + 1 + 1 + 1) = m + 1 + 1 + 1 := wrap_small (by omega) (by omega)
    have es : wrap64 ((i : Int) + 1) = ((i + 1 : Nat) : Int) := by rw [wrap_small (by omega) (by omega)]; omega
    have g := h2 i hlt
    refine ev_succ ?_
    simp only [laws_heldMeetS.l0, if_pos (show (i : Int) < (ys.length : Int) by omega), if_pos (show (0 : Int) ≤ (i : Int) by omega), rd109 hlt, g, e1, e2, e3, es, if_pos (show 1 + 3 * (i : Int) = m by omega), if_pos (show 2 + 3 * (i : Int) = m + 1 by omega), if_pos (show 3 + 3 * (i : Int) = m + 1 + 1 by omega)]
    exact ih (i + 1) _ (by omega) (by omega) (by omega)
theorem held_meets (ys : List S109) (n : Nat) (hy : markedM ys n) (hn : n ≤ 17592186044416) : Ev (fun k => laws_heldMeetS.f k ys 1) (1 + 3 * (n : Int)) := held_meets_from ys n hy hn n 0 1 (by omega) (by omega) (by omega)
theorem FnExactRayMeets : laws_FnExactRayMeets_Pure := by
  intro l x y dx dy hl _ _ _ _
  have h1 : l.length ≤ 7036874417766 := by omega
  apply Ev.rounds (r := true)
  unfold laws_FnExactRayMeets.f laws_szShapeS.f
  by_cases h : wrap64 (1048576 - (l.length : Int)) < 0
  · simp only [if_pos h, Option.bind_some, show (-1 : Int) < 0 from by decide, if_true]
    exact Ev.now true
  · simp only [if_neg h, Option.bind_some]
    have hk := to_shapes l h1
    have h2 : (l.map shapeOf).length ≤ 17592186044416 := by rw [List.length_map]; omega
    generalize l.map shapeOf = s at *
    obtain ⟨⟨v, b⟩, hsp, him, hp⟩ := rays s x y dx dy
    have hp : v.length ≤ 40 := hp
    have hev := eq_meets v (by omega)
    obtain ⟨zs, hms⟩ := mark_shapes s h2
    obtain ⟨ys, hmk, hmp⟩ := mark_meets v (by omega)
    have hh := held_meets ys v.length hmk (by omega)
    refine Ev.bind hk (Ev.bind hsp (Ev.bind hk (Ev.bind him (Ev.bind hev ?_))))
    simp only [if_true, bne_self_eq_false]
    refine ev_succ ?_
    simp only [laws_FnExactRayMeets.j0, Bool.false_eq_true, if_false]
    refine Ev.bind hk (Ev.bind (eq_shapes s h2) ?_)
    simp only [if_true]
    refine Ev.bind hms ?_
    simp only [if_neg (show ¬ (1 + 5 * (s.length : Int) < 0) by omega)]
    refine Ev.bind hev ?_
    simp only [if_true, bne_self_eq_false]
    refine ev_succ ?_
    simp only [laws_FnExactRayMeets.j1, Bool.false_eq_true, if_false]
    refine Ev.bind hmp (Ev.bind hh ?_)
    simp only [if_neg (show ¬ (1 + 3 * (v.length : Int) < 0) by omega), if_true]
    refine Ev.bind hk (Ev.bind him (Ev.bind hev ?_))
    simp only [if_true, bne_self_eq_false]
    refine ev_succ ?_
    simp only [laws_FnExactRayMeets.j2, Bool.false_eq_true, if_false]
    refine Ev.bind hh ?_
    simp only [if_neg (show ¬ (1 + 3 * (v.length : Int) < 0) by omega), if_true]
    exact Ev.now true
end Go.Proofs.Ytiaajmnmbjheoaa.Pure
