/- The program's AllPairs and the reference's answer alike at every shapes. No condition. -/
import Derived.Test.YtlijlailbjjfbaaPFnExactAllPairsx7
namespace Go.Proofs.Ytlijlailbjjfbaa.Pure
open Go.RowKit Go.Proofs.Ytlijlailbjjfbaa.PFnExactAllPairs Go.Proofs.YtlijlailbjjfbaaW.PrintWords Go.Proofs.YtlijlailbjjfbaaW.PrintLast Go.Proofs.YtlijlailbjjfbaaW.PrintMore
set_option linter.unusedVariables false
set_option linter.unusedSimpArgs false
/-- What can be read as a datum of type 72. -/
def Good72 (x : S72) : Prop := (Lit.int .i64 x.f0).wf = true ∧ (Lit.int .i64 x.f1).wf = true ∧ (Lit.int .i64 x.f2).wf = true ∧ (Lit.int .i64 x.f3).wf = true ∧ (Lit.int .i64 x.f4).wf = true
/-- The one pure statement. -/
def laws_FnExactAllPairs_Pure : Prop := ∀ (l0 : (List S72)), (List.length l0 ≤ maxLen ∧ List.length l0 * 40 ≤ 140737488351232 ∧ ∀ y ∈ l0, Good72 y) → ∃ k, laws_FnExactAllPairs.f k l0 = some true
/-! #### whole numbers: wraps, quotients towards nought -/
theorem wrap_small {i : Int} (h0 : -9223372036854775808 ≤ i) (h1 : i ≤ 9223372036854775807) : wrap64 i = i := by unfold wrap64; omega
theorem tdiv_pos {a b : Int} (ha : 0 ≤ a) : Int.tdiv a b = a / b := Int.tdiv_eq_ediv_of_nonneg ha
theorem tmod_pos {a b : Int} (ha : 0 ≤ a) : Int.tmod a b = a % b := Int.tmod_eq_emod_of_nonneg ha
theorem tdiv_neg' {a b : Int} (ha : a < 0) : Int.tdiv a b = -((-a) / b) := by
  rw [← Int.tdiv_eq_ediv_of_nonneg (a := -a) (by omega), Int.neg_tdiv, Int.neg_neg]
theorem tmod_neg' {a b : Int} (ha : a < 0) : Int.tmod a b = -((-a) % b) := by
  rw [← Int.tmod_eq_emod_of_nonneg (a := -a) (by omega), Int.neg_tmod, Int.neg_neg]
theorem wf64 {a : Int} (h : (Lit.int .i64 a).wf = true) : -9223372036854775808 ≤ a ∧ a ≤ 9223372036854775807 := by
  simp [Lit.wf, IntKind.min, IntKind.max, IntKind.signed, IntKind.bits] at h
  omega
theorem ev_succ {α : Type} {g : Nat → Option α} {r : α} (h : Ev (fun k => g (k + 1)) r) : Ev g r := Ev.step (f := fun k => g (k + 1)) (fun _ => rfl) h
theorem ev_eq {α : Type} {g : Nat → Option α} {r : α} (h : ∀ k, g k = some r) : Ev g r := ⟨0, fun k _ => h k⟩
theorem ev_val {α : Type} {g : Nat → Option α} {r r' : α} (h : Ev g r) (e : r = r') : Ev g r' := e ▸ h
/-! #### is a number in a span -/
def inB (a b c : Int) : Bool := decide (b ≤ a ∧ a ≤ c)
theorem inB_iff {a b c : Int} : inB a b c = true ↔ b ≤ a ∧ a ≤ c := by unfold inB; rw [decide_eq_true_eq]
theorem spec_in (a b c : Int) : spec_l1In.f a b c = some (inB a b c) := by
  unfold spec_l1In.f inB
  by_cases h : a ≥ b
  · rw [if_pos h]; congr 1; rw [decide_eq_decide]; omega
  · rw [if_neg h]; congr 1; exact (decide_eq_false (by omega)).symm
theorem impl_in (a b c : Int) : impl_inRange.f a b c = some (inB a b c) := by
  unfold impl_inRange.f inB
  by_cases h : b ≤ a
  · rw [if_pos h]; congr 1; rw [decide_eq_decide]; omega
  · rw [if_neg h]; congr 1; exact (decide_eq_false (by omega)).symm
/-! #### loops that go up, from a place on -/
theorem Ev_up {σ ρ : Type} (g : Nat → Nat → σ → Option ρ) (n : Nat) (Inv : Nat → σ → Prop) (Post : ρ → Prop)
    (hend : ∀ s, Inv n s → ∃ r, Ev (fun k => g k n s) r ∧ Post r)
    (hstep : ∀ i s, i < n → Inv i s → (∃ r, Ev (fun k => g k i s) r ∧ Post r) ∨ (∃ s', Inv (i + 1) s' ∧ ∀ r, Ev (fun k => g k (i + 1) s') r → Ev (fun k => g k i s) r))
    (d : Nat) : ∀ i s, n - i = d → i ≤ n → Inv i s → ∃ r, Ev (fun k => g k i s) r ∧ Post r := by
  induction d with
  | zero =>
    intro i s hd hi hs
    obtain rfl : i = n := by omega
    exact hend s hs
  | succ d ih =>
    intro i s hd hi hs
    rcases hstep i s (by omega) hs with h | ⟨s', hs', hg⟩
    · exact h
    · obtain ⟨r, hr, hp⟩ := ih (i + 1) s' (by omega) (by omega) hs'
      exact ⟨r, hg r hr, hp⟩
theorem succ_cast {i n : Nat} (h : i < n) (hn : n ≤ 9223372036854775806) : wrap64 ((i : Int) + 1) = ((i + 1 : Nat) : Int) := by
  rw [wrap_small (by omega) (by omega)]; omega
theorem drop_cons {α : Type} {l : List α} {i : Nat} (h : i < l.length) : l.drop i = l[i] :: l.drop (i + 1) := List.drop_eq_getElem_cons h
theorem rd_at {l : List Int} {i : Nat} (h : i < l.length) : rd l (i : Int) = l[i] := by simp [rd, h]
/-! #### loops that copy and loops that compare -/
theorem set_step {α β : Type} (g : α → β) (z : β) (l : List α) (i : Nat) (hi : i < l.length) : ((l.take i).map g ++ List.replicate (l.length - i) z).set i (g l[i]) = (l.take (i + 1)).map g ++ List.replicate (l.length - (i + 1)) z := by
  have e : l.length - i = (l.length - (i + 1)) + 1 := by omega
  have hl : ((l.take i).map g).length = i := by rw [List.length_map, List.length_take]; omega
  rw [e, List.replicate_succ, List.set_append_right _ _ (by omega), hl, Nat.sub_self, List.set_cons_zero, List.take_succ_eq_append_getElem hi, List.map_append, List.append_assoc]
  rfl
/-- A loop that sets each place of a fresh list. -/
theorem ev_map {α β : Type} (l : List α) (z : β) (g : α → β) (F : Nat → List β → Int → Option (List β)) (G : Nat → α → Option β) (hG : ∀ i (hi : i < l.length), Ev (fun k => G k l[i]) (g l[i]))
    (hstep : ∀ k (x : List β) (i : Nat) (hi : i < l.length), x.length = l.length → F (k + 1) x (i : Int) = (G k l[i]).bind fun v => F k (x.set i v) ((i + 1 : Nat) : Int))
    (hend : ∀ k (x : List β), F (k + 1) x (l.length : Int) = some x) : Ev (fun k => F k (List.replicate l.length z) 0) (l.map g) := by
  have main : ∀ d i, l.length - i = d → i ≤ l.length → Ev (fun k => F k ((l.take i).map g ++ List.replicate (l.length - i) z) (i : Int)) (l.map g) := by
    intro d
    induction d with
    | zero =>
      intro i hd hi
      obtain rfl : i = l.length := by omega
      refine ev_succ ?_
      simp only [hend, Nat.sub_self, List.replicate_zero, List.append_nil, List.take_length]
      exact Ev.now _
    | succ d ih =>
      intro i hd hi
      have hlt : i < l.length := by omega
      refine ev_succ ?_
      have hx : ((l.take i).map g ++ List.replicate (l.length - i) z).length = l.length := by
        rw [List.length_append, List.length_map, List.length_take, List.length_replicate]; omega
      simp only [hstep _ _ i hlt hx]
      refine Ev.bind (hG i hlt) ?_
      simp only [set_step g z l i hlt]
      exact ih (i + 1) (by omega) (by omega)
  have := main l.length 0 (by omega) (by omega)
  simp only [List.take_zero, List.map_nil, List.nil_append, Nat.sub_zero] at this
  exact this
/-- A loop that asks each place, and every place answers true. -/
theorem ev_trues {n : Nat} (F : Nat → Int → Option Bool) (G : Nat → Nat → Option Bool) (hG : ∀ i, i < n → Ev (fun k => G k i) true)
    (hstep : ∀ k (i : Nat), i < n → F (k + 1) (i : Int) = (G k i).bind fun t => if t = true then F k ((i + 1 : Nat) : Int) else some false)
    (hend : ∀ k, F (k + 1) (n : Int) = some true) : Ev (fun k => F k 0) true := by
  have main : ∀ d i, n - i = d → i ≤ n → Ev (fun k => F k (i : Int)) true := by
    intro d
    induction d with
    | zero =>
      intro i hd hi
      obtain rfl : i = n := by omega
      refine ev_succ ?_
      simp only [hend]
      exact Ev.now _
    | succ d ih =>
      intro i hd hi
      refine ev_succ ?_
      simp only [hstep _ i (show i < n by omega)]
      refine Ev.bind (hG i (by omega)) ?_
      simp only [if_true]
      exact ih (i + 1) (by omega) (by omega)
  exact main n 0 (by omega) (by omega)
theorem toNat_cast (i : Nat) : ((i : Int)).toNat = i := Int.toNat_natCast i
/-! #### good shapes -/
def shapeB (k x y w h : Int) : Bool := inB x (-100000) 100000 && (inB y (-100000) 100000 && (inB w 1 1000 && ((decide (k = 1) && inB h 1 1000) || (decide (k = 2) && (h == 0)))))
theorem spec_shape (k x y w h : Int) : spec_GoodShape.f k x y w h = some (shapeB k x y w h) := by
  unfold spec_GoodShape.f shapeB
  simp only [spec_in, Option.bind_some]
  cases inB x (-100000) 100000 <;> cases inB y (-100000) 100000 <;> cases inB w 1 1000 <;> cases inB h 1 1000 <;> by_cases h1 : k = 1 <;> by_cases h2 : k = 2 <;> simp [h1, h2] <;> omega
theorem impl_shape (k x y w h : Int) : impl_GoodShape.f k x y w h = some (shapeB k x y w h) := by
  unfold impl_GoodShape.f impl_isSpan.f shapeB
  simp only [impl_in, Option.bind_some]
  cases inB x (-100000) 100000 <;> cases inB y (-100000) 100000 <;> cases inB w 1 1000 <;> cases inB h 1 1000 <;> by_cases h1 : k = 1 <;> by_cases h2 : k = 2 <;> simp [h1, h2] <;> omega
theorem bounds_same (k x y w h : Int) : spec_l9Bounds.f k x y w h = impl_Shape_bounds.f k x y w h := rfl
/-- A shape's bounds: west, north, east, south. -/
def boundsV (k x y w h : Int) : Int × Int × Int × Int := if k = 1 then (x, y, wrap64 (x + w), wrap64 (y + h)) else (wrap64 (x - w), wrap64 (y - w), wrap64 (x + w), wrap64 (y + w))
theorem impl_bounds (k x y w h : Int) : impl_Shape_bounds.f k x y w h = some (boundsV k x y w h) := by
  unfold impl_Shape_bounds.f boundsV
  split <;> rfl
theorem spec_bounds (k x y w h : Int) : spec_l9Bounds.f k x y w h = some (boundsV k x y w h) := by rw [bounds_same, impl_bounds]
/-! #### do two good shapes touch -/
theorem wrap_lo {i : Int} (h0 : -4611686018427387904 ≤ i) (h1 : i ≤ 4611686018427387904) : wrap64 i = i := wrap_small (by omega) (by omega)
def nearB (a b c : Int) : Bool := decide (wrap64 (wrap64 (a * a) + wrap64 (b * b)) ≤ wrap64 (c * c))
def gapV (x lo hi : Int) : Int := if x < lo then wrap64 (lo - x) else if x > hi then wrap64 (x - hi) else 0
theorem spec_gap (x lo hi : Int) : spec_l9Gap.f x lo hi = some (gapV x lo hi) := by
  unfold spec_l9Gap.f gapV
  split
  · rfl
  · split <;> rfl
theorem gap_square {x lo hi : Int} (h : lo ≤ hi) (a0 : -1000000 ≤ x) (a1 : x ≤ 1000000) (b0 : -1000000 ≤ lo) (b1 : lo ≤ 1000000) (c0 : -1000000 ≤ hi) (c1 : hi ≤ 1000000) :
    wrap64 (x - mn (mx x lo) hi) * wrap64 (x - mn (mx x lo) hi) = gapV x lo hi * gapV x lo hi := by
  unfold gapV
  by_cases h1 : x < lo
  · rw [if_pos h1]
    have e : mn (mx x lo) hi = lo := by unfold mn mx; rw [if_pos h1, if_neg (by omega)]
    rw [e, wrap_lo (by omega) (by omega), wrap_lo (by omega) (by omega), show x - lo = -(lo - x) by omega, Int.neg_mul_neg]
  · rw [if_neg h1]
    by_cases h2 : x > hi
    · rw [if_pos h2]
      have e : mn (mx x lo) hi = hi := by unfold mn mx; rw [if_neg h1, if_pos (by omega)]
      rw [e]
    · rw [if_neg h2]
      have e : mn (mx x lo) hi = x := by unfold mn mx; rw [if_neg h1, if_neg (by omega)]
      rw [e, Int.sub_self, wrap_small (i := 0) (by omega) (by omega)]
theorem shapeB_bounds {k x y w h : Int} (hs : shapeB k x y w h = true) : -100000 ≤ x ∧ x ≤ 100000 ∧ -100000 ≤ y ∧ y ≤ 100000 ∧ 1 ≤ w ∧ w ≤ 1000 ∧ ((k = 1 ∧ 1 ≤ h ∧ h ≤ 1000) ∨ (k = 2 ∧ h = 0)) := by
  unfold shapeB at hs
  simp only [Bool.and_eq_true, Bool.or_eq_true, inB_iff, decide_eq_true_eq, beq_iff_eq] at hs
  omega
/-- The reference's answer for a disk and a box. -/
def diskBox (dx dy dr k x y w h : Int) : Bool := nearB (gapV dx (boundsV k x y w h).1 (boundsV k x y w h).2.2.1) (gapV dy (boundsV k x y w h).2.1 (boundsV k x y w h).2.2.2) dr
def boxBox (k x y w h k' x' y' w' h' : Int) : Bool :=
  decide ((boundsV k' x' y' w' h').1 ≤ (boundsV k x y w h).2.2.1 ∧ (boundsV k x y w h).1 ≤ (boundsV k' x' y' w' h').2.2.1 ∧ (boundsV k' x' y' w' h').2.1 ≤ (boundsV k x y w h).2.2.2 ∧ (boundsV k x y w h).2.1 ≤ (boundsV k' x' y' w' h').2.2.2)
/-- Whether two good shapes touch. -/
def touchB (k x y w h k' x' y' w' h' : Int) : Bool :=
  if k = 2 then (if k' = 2 then nearB (wrap64 (x - x')) (wrap64 (y - y')) (wrap64 (w + w')) else diskBox x y w k' x' y' w' h')
  else (if k' = 2 then diskBox x' y' w' k x y w h else boxBox k x y w h k' x' y' w' h')
theorem spec_touch {k x y w h k' x' y' w' h' : Int} (hs : shapeB k x y w h = true) (hs' : shapeB k' x' y' w' h' = true) :
    Ev (fun q => spec_l9Touch.f q k x y w h k' x' y' w' h') (touchB k x y w h k' x' y' w' h') := by
  obtain ⟨b1, b2, b3, b4, b5, b6, b7⟩ := shapeB_bounds hs
  obtain ⟨c1, c2, c3, c4, c5, c6, c7⟩ := shapeB_bounds hs'
  refine ⟨3, fun q hq => ?_⟩
  obtain ⟨q, rfl⟩ : ∃ m, q = m + 3 := ⟨q - 3, by omega⟩
  show spec_l9Touch.f (q + 3) k x y w h k' x' y' w' h' = some (touchB k x y w h k' x' y' w' h')
  unfold spec_l9Touch.f touchB
  rcases b7 with ⟨rfl, b7, b8⟩ | ⟨rfl, rfl⟩ <;> rcases c7 with ⟨rfl, c7, c8⟩ | ⟨rfl, rfl⟩
  · rw [if_neg (by omega), if_neg (by omega), if_neg (by omega)]
    simp only [spec_l9Touch.j0, Bool.false_eq_true, if_false, if_true]
    simp only [spec_l9Touch.j1, spec_l9Touch.j2, spec_bounds, Option.bind_some, show ((1 : Int) == 2) = false from rfl, Bool.false_eq_true, if_false]
    rw [if_neg (by omega)]
    unfold boxBox
    generalize boundsV 1 x y w h = v
    generalize boundsV 1 x' y' w' h' = v'
    by_cases e1 : v'.1 ≤ v.2.2.1 <;> by_cases e2 : v.1 ≤ v'.2.2.1 <;> by_cases e3 : v'.2.1 ≤ v.2.2.2 <;> simp [e1, e2, e3]
  · rw [if_neg (by omega), if_neg (by omega), if_pos (by omega)]
    simp only [spec_l9Touch.j0, Bool.false_eq_true, if_false, if_true]
    simp only [spec_l9Touch.j1, spec_l9Touch.j2, spec_bounds, Option.bind_some, show ((2 : Int) == 2) = true from rfl, if_true, spec_gap]
    rfl
  · rw [if_pos (by omega), if_pos (by omega), if_neg (by omega)]
    simp only [spec_l9Touch.j0, show ((1 : Int) == 2) = false from rfl, Bool.false_eq_true, if_false]
    rw [if_neg (by omega)]
    simp only [spec_l9Touch.j1, spec_l9Touch.j2, spec_bounds, Option.bind_some, Bool.false_eq_true, if_false, if_true, spec_gap]
    rfl
  · rw [if_pos (by omega), if_pos (by omega), if_pos (by omega)]
    simp only [spec_l9Touch.j0, show ((2 : Int) == 2) = true from rfl, if_true]
    rfl
theorem impl_touch_box {x y w h k' x' y' w' h' : Int} (hs : shapeB 1 x y w h = true) (hs' : shapeB k' x' y' w' h' = true) (q : Nat) :
    impl_touch.f (q + 2) 1 x y w h k' x' y' w' h' = some (touchB 1 x y w h k' x' y' w' h') := by
  obtain ⟨b1, b2, b3, b4, b5, b6, b7⟩ := shapeB_bounds hs
  obtain ⟨c1, c2, c3, c4, c5, c6, c7⟩ := shapeB_bounds hs'
  rw [impl_touch.f, if_neg (by omega)]
  unfold touchB
  rw [if_neg (by omega)]
  simp only [impl_touch.j0, Bool.false_eq_true, if_false]
  rw [if_neg (by omega), impl_bounds]
  simp only [Option.bind_some]
  rcases c7 with ⟨rfl, c7, c8⟩ | ⟨rfl, rfl⟩
  · rw [if_neg (by omega), if_neg (by omega), impl_bounds]
    simp only [Option.bind_some]
    unfold boxBox
    generalize boundsV 1 x y w h = v
    generalize boundsV 1 x' y' w' h' = v'
    by_cases e1 : v'.1 ≤ v.2.2.1 <;> by_cases e2 : v.1 ≤ v'.2.2.1 <;> by_cases e3 : v'.2.1 ≤ v.2.2.2 <;> by_cases e4 : v.2.1 ≤ v'.2.2.2 <;> simp [e1, e2, e3, e4]
  · rw [if_pos (by omega), if_pos (by omega)]
    unfold impl_clamp.f impl_near.f diskBox nearB
    simp only [Option.bind_some]
    have d7 : 1 ≤ h ∧ h ≤ 1000 := by omega
    have ev : boundsV 1 x y w h = (x, y, x + w, y + h) := by
      unfold boundsV
      rw [if_pos rfl, wrap_lo (by omega) (by omega), wrap_lo (by omega) (by omega)]
    rw [ev]
    dsimp only
    rw [gap_square (by omega) (by omega) (by omega) (by omega) (by omega) (by omega) (by omega), gap_square (by omega) (by omega) (by omega) (by omega) (by omega) (by omega) (by omega)]
theorem touch_swap {k x y w h k' x' y' w' h' : Int} (hk : k = 2) (hk' : k' = 1) : touchB k x y w h k' x' y' w' h' = touchB k' x' y' w' h' k x y w h := by
  subst hk hk'
  rfl
theorem impl_touch {k x y w h k' x' y' w' h' : Int} (hs : shapeB k x y w h = true) (hs' : shapeB k' x' y' w' h' = true) :
    Ev (fun q => impl_touch.f q k x y w h k' x' y' w' h') (touchB k x y w h k' x' y' w' h') := by
  obtain ⟨b1, b2, b3, b4, b5, b6, b7⟩ := shapeB_bounds hs
  obtain ⟨c1, c2, c3, c4, c5, c6, c7⟩ := shapeB_bounds hs'
  refine ⟨4, fun q hq => ?_⟩
  obtain ⟨q, rfl⟩ : ∃ m, q = m + 4 := ⟨q - 4, by omega⟩
  show impl_touch.f (q + 4) k x y w h k' x' y' w' h' = some (touchB k x y w h k' x' y' w' h')
  rcases b7 with ⟨rfl, b7, b8⟩ | ⟨rfl, rfl⟩
  · exact impl_touch_box hs hs' (q + 2)
  · rw [impl_touch.f, if_pos rfl]
    rcases c7 with ⟨rfl, c7, c8⟩ | ⟨rfl, rfl⟩
    · rw [impl_touch.j0, show ((1 : Int) == 2) = false from rfl, if_neg (by decide), if_pos rfl, impl_touch_box hs' hs q, touch_swap rfl rfl]
      rfl
    · rw [impl_touch.j0, show ((2 : Int) == 2) = true from rfl, if_pos rfl]
      rfl
def shapeOf (x : S72) : S74 := ⟨x.f0, x.f1, x.f2, x.f3, x.f4⟩
theorem rd72 {l : List S72} {i : Nat} (h : i < l.length) : rd_T72 l (i : Int) = l[i] := by simp [rd_T72, h]
theorem rd74 {l : List S74} {i : Nat} (h : i < l.length) : rd_T74 l (i : Int) = l[i] := by simp [rd_T74, h]
theorem rd103 {l : List S103} {i : Nat} (h : i < l.length) : rd_T103 l (i : Int) = l[i] := by simp [rd_T103, h]
theorem to_shapes (l : List S72) (hl : l.length ≤ 7036874417766) : Ev (fun k => laws_toShapeS.f k l) (l.map shapeOf) := by
  unfold laws_toShapeS.f
  simp only [if_pos (show (0 : Int) ≤ (l.length : Int) by omega), toNat_cast, if_pos hl]
  refine ev_map l z74 shapeOf (fun k x i => laws_toShapeS.l0 k l x i) (fun _ x => some (shapeOf x)) (fun _ _ => Ev.now _) ?_ ?_
  · intro k x i hi hx
    simp only [laws_toShapeS.l0, if_pos (show (i : Int) < (l.length : Int) by omega), if_pos (show (0 : Int) ≤ (i : Int) by omega), laws_toShape.f, Option.bind_some, if_pos (show (i : Int) < (x.length : Int) by omega), rd72 hi, toNat_cast, succ_cast hi (by omega)]
    rfl
  · intro k x
    simp only [laws_toShapeS.l0, if_neg (show ¬ (l.length : Int) < (l.length : Int) by omega)]
theorem eq_shapes (l : List S74) (hl : l.length ≤ 17592186044416) : Ev (fun k => laws_eqShapeS.f k l l) true := by
  unfold laws_eqShapeS.f
  simp only [if_true]
  refine ev_trues (n := l.length) (fun k i => laws_eqShapeS.l0 k l l i) (fun _ _ => some true) (fun _ _ => Ev.now _) ?_ ?_
  · intro k i hi
    simp only [laws_eqShapeS.l0, if_pos (show (i : Int) < (l.length : Int) by omega), if_pos (show (0 : Int) ≤ (i : Int) by omega), laws_eqShape.f, if_true, Option.bind_some, rd74 hi, succ_cast hi (by omega)]
  · intro k
    simp only [laws_eqShapeS.l0, if_neg (show ¬ (l.length : Int) < (l.length : Int) by omega)]
theorem eq_pairs (l : List S103) (hl : l.length ≤ 17592186044416) : Ev (fun k => laws_eqPairS.f k l l) true := by
  unfold laws_eqPairS.f
  simp only [if_true]
  refine ev_trues (n := l.length) (fun k i => laws_eqPairS.l0 k l l i) (fun _ _ => some true) (fun _ _ => Ev.now _) ?_ ?_
  · intro k i hi
    simp only [laws_eqPairS.l0, if_pos (show (i : Int) < (l.length : Int) by omega), if_pos (show (0 : Int) ≤ (i : Int) by omega), laws_eqPair.f, if_true, Option.bind_some, rd103 hi, succ_cast hi (by omega)]
  · intro k
    simp only [laws_eqPairS.l0, if_neg (show ¬ (l.length : Int) < (l.length : Int) by omega)]
theorem mark_shapes_from (n : Nat) (hn : n ≤ 17592186044416) (d : Nat) : ∀ (i : Nat) (xs : List S74) (m : Int), n - i = d → i ≤ n → xs.length = n → m = 1 + 5 * (i : Int) → ∃ ys, Ev (fun k => laws_markShapeS.l0 k xs m (i : Int)) (1 + 5 * (n : Int), ys) := by
  induction d with
  | zero =>
    intro i xs m hd hi hx hm
    refine ⟨xs, ev_succ ?_⟩
    have : i = n := by omega
    simp only [laws_markShapeS.l0, if_neg (show ¬ (i : Int) < (xs.length : Int) by omega)]
    rw [hm, this]
    exact Ev.now _
  | succ d ih =>
    intro i xs m hd hi hx hm
    have g1 : n - (i + 1) = d := by omega
    have g2 : i + 1 ≤ n := by omega
    have g3 : m + 1 + 1 + 1 + 1 + 1 = 1 + 5 * ((i + 1 : Nat) : Int) := by omega
    have i0 : (i : Int) < (xs.length : Int) := by omega
    have i1 : (0 : Int) ≤ (i : Int) := by omega
    have es : wrap64 ((i : Int) + 1) = ((i + 1 : Nat) : Int) := by rw [wrap_small (by omega) (by omega)]; omega
    have e1 : wrap64 (m + 1) = m + 1 := wrap_small (by omega) (by omega)
    have e2 : wrap64 (m + 1 + 1) = m + 1 + 1 := wrap_small (by omega) (by omega)
    have e3 : wrap64 (m + 1 + 1 + 1) = m + 1 + 1 + 1 := wrap_small (by omega) (by omega)
    have e4 : wrap64 (m + 1 + 1 + 1 + 1) = m + 1 + 1 + 1 + 1 := wrap_small (by omega) (by omega)
    have e5 : wrap64 (m + 1 + 1 + 1 + 1 + 1) = m + 1 + 1 + 1 + 1 + 1 := wrap_small (by omega) (by omega)
    have key : ∀ zs : List S74, zs.length = n → ∃ ys, Ev (fun k => laws_markShapeS.l0 k zs (m + 1 + 1 + 1 + 1 + 1) ((i + 1 : Nat) : Int)) (1 + 5 * (n : Int), ys) := fun zs hz => ih (i + 1) zs _ g1 g2 hz g3
    suffices h : ∃ ys, Ev (fun k => laws_markShapeS.l0 (k + 1) xs m (i : Int)) (1 + 5 * (n : Int), ys) from h.elim fun ys hy => ⟨ys, ev_succ hy⟩
    simp only [laws_markShapeS.l0, if_pos i0, if_pos i1, Option.bind_some, e1, e2, e3, e4, e5, es]
    exact key _ (by simp only [List.length_set]; exact hx)
theorem mark_shapes (l : List S74) (hl : l.length ≤ 17592186044416) : ∃ ys, Ev (fun k => laws_markShapeS.f k l 1) (1 + 5 * (l.length : Int), ys) := mark_shapes_from l.length hl l.length 0 l 1 (by omega) (by omega) rfl (by omega)
def markedP (ys : List S103) (n : Nat) : Prop := ys.length = n ∧ ∀ j (h : j < ys.length), ys[j] = (⟨1 + 2 * (j : Int), 2 + 2 * (j : Int)⟩ : S103)
theorem mark_pairs_from (n : Nat) (hn : n ≤ 17592186044416) (d : Nat) : ∀ (i : Nat) (xs : List S103) (m : Int), n - i = d → i ≤ n → xs.length = n → m = 1 + 2 * (i : Int) → (∀ j (h : j < xs.length), j < i → xs[j] = (⟨1 + 2 * (j : Int), 2 + 2 * (j : Int)⟩ : S103)) → ∃ ys, markedP ys n ∧ Ev (fun k => laws_markPairS.l0 k xs m (i : Int)) (1 + 2 * (n : Int), ys) := by
  induction d with
  | zero =>
    intro i xs m hd hi hx hm hj
    have : i = n := by omega
    refine ⟨xs, ⟨hx, fun j h => hj j h (by omega)⟩, ev_succ ?_⟩
    simp only [laws_markPairS.l0, if_neg (show ¬ (i : Int) < (xs.length : Int) by omega)]
    rw [hm, this]
    exact Ev.now _
  | succ d ih =>
    intro i xs m hd hi hx hm hj
    have hlt : i < xs.length := by omega
    have e1 : wrap64 (m + 1) = m + 1 := wrap_small (by omega) (by omega)
    have e2 : wrap64 (m + 1 + 1) = m + 1 + 1 := wrap_small (by omega) (by omega)
    have es : wrap64 ((i : Int) + 1) = ((i + 1 : Nat) : Int) := by rw [wrap_small (by omega) (by omega)]; omega
    have hs0 : ∀ k, laws_markPairS.l0 (k + 1) xs m (i : Int) = laws_markPairS.l0 k ((xs.set i (⟨m, (xs[i]).f1⟩ : S103)).set i (⟨m, m + 1⟩ : S103)) (m + 1 + 1) ((i + 1 : Nat) : Int) := by
      intro k
      have hg : rd_T103 (xs.set i (⟨m, (xs[i]).f1⟩ : S103)) (i : Int) = (⟨m, (xs[i]).f1⟩ : S103) := by
        rw [rd103 (by rw [List.length_set]; exact hlt), List.getElem_set_self]
      simp only [laws_markPairS.l0, if_pos (show (i : Int) < (xs.length : Int) by omega), if_pos (show (0 : Int) ≤ (i : Int) by omega), Option.bind_some, e1, e2, es, toNat_cast, rd103 hlt, hg]
    obtain ⟨ys, hm2, hy⟩ := ih (i + 1) ((xs.set i (⟨m, (xs[i]).f1⟩ : S103)).set i (⟨m, m + 1⟩ : S103)) (m + 1 + 1) (by omega) (by omega) (by simp only [List.length_set]; exact hx) (by omega) (by
      intro j h h2
      by_cases e : j = i
      · subst e
        rw [List.getElem_set_self, hm]
        congr 1
        omega
      · rw [List.getElem_set_ne (fun h => e h.symm), List.getElem_set_ne (fun h => e h.symm)]
        exact hj j (by simpa using h) (by omega))
    refine ⟨ys, hm2, ev_succ ?_⟩
    simp only [hs0]
    exact hy
theorem mark_pairs (l : List S103) (hl : l.length ≤ 17592186044416) : ∃ ys, markedP ys l.length ∧ Ev (fun k => laws_markPairS.f k l 1) (1 + 2 * (l.length : Int), ys) :=
  mark_pairs_from l.length hl l.length 0 l 1 (by omega) (by omega) rfl (by omega) (fun j h h2 => absurd h2 (Nat.not_lt_zero _))
theorem held_pairs_from (ys : List S103) (n : Nat) (hy : markedP ys n) (hn : n ≤ 17592186044416) (d : Nat) : ∀ (i : Nat) (m : Int), n - i = d → i ≤ n → m = 1 + 2 * (i : Int) → Ev (fun k => laws_heldPairS.l0 k ys m (i : Int)) (1 + 2 * (n : Int)) := by
  obtain ⟨h1, h2⟩ := hy
  induction d with
  | zero =>
    intro i m hd hi hm
    have : i = n := by omega
    refine ev_succ ?_
    simp only [laws_heldPairS.l0, if_neg (show ¬ (i : Int) < (ys.length : Int) by omega)]
    rw [hm, this]
    exact Ev.now _
  | succ d ih =>
    intro i m hd hi hm
    have hlt : i < ys.length := by omega
    have e1 : wrap64 (m + 1) = m + 1 := wrap_small (by omega) (by omega)
    have e2 : wrap64 (m + 1 + 1) = m + 1 + 1 := wrap_small (by omega) (by omega)
    have es : wrap64 ((i : Int) + 1) = ((i + 1 : Nat) : Int) := by rw [wrap_small (by omega) (by omega)]; omega
    have g := h2 i hlt
    refine ev_succ ?_
    simp only [laws_heldPairS.l0, if_pos (show (i : Int) < (ys.length : Int) by omega), if_pos (show (0 : Int) ≤ (i : Int) by omega), rd103 hlt, g, e1, e2, es, if_pos (show 1 + 2 * (i : Int) = m by omega), if_pos (show 2 + 2 * (i : Int) = m + 1 by omega)]
    exact ih (i + 1) _ (by omega) (by omega) (by omega)
theorem held_pairs (ys : List S103) (n : Nat) (hy : markedP ys n) (hn : n ≤ 17592186044416) : Ev (fun k => laws_heldPairS.f k ys 1) (1 + 2 * (n : Int)) := held_pairs_from ys n hy hn n 0 1 (by omega) (by omega) (by omega)
/-! #### are all good shapes, and which touch -/
def sB (x : S74) : Bool := shapeB x.f0 x.f1 x.f2 x.f3 x.f4
def tB (x y : S74) : Bool := touchB x.f0 x.f1 x.f2 x.f3 x.f4 y.f0 y.f1 y.f2 y.f3 y.f4
def shapesB (l : List S74) : Bool := decide ((l.length : Int) ≤ 40) && l.all sB
theorem spec_shapes_from (l : List S74) (hl : l.length ≤ 40) (d : Nat) : ∀ i : Nat, l.length - i = d → i ≤ l.length → Ev (fun k => spec_l9Shapes.l0 k l (l.length : Int) (i : Int)) ((l.drop i).all sB) := by
  induction d with
  | zero =>
    intro i hd hi
    have e : l.drop i = [] := List.drop_eq_nil_of_le (by omega)
    rw [e]
    refine ev_succ ?_
    simp only [spec_l9Shapes.l0, if_neg (show ¬ (i : Int) < (l.length : Int) by omega)]
    exact Ev.now _
  | succ d ih =>
    intro i hd hi
    have hlt : i < l.length := by omega
    rw [drop_cons hlt, List.all_cons]
    refine ev_succ ?_
    simp only [spec_l9Shapes.l0, if_pos (show (i : Int) < (l.length : Int) by omega), if_pos (show (0 : Int) ≤ (i : Int) by omega), spec_shape, rd74 hlt, succ_cast hlt (by omega), Option.bind_some]
    have e : shapeB l[i].f0 l[i].f1 l[i].f2 l[i].f3 l[i].f4 = sB l[i] := rfl
    rw [e]
    cases hb : sB l[i] with
    | true =>
      simp only [if_true, Bool.true_and]
      exact ih (i + 1) (by omega) (by omega)
    | false =>
      simp only [Bool.false_eq_true, if_false, Bool.false_and]
      exact Ev.now _
theorem spec_shapes (l : List S74) : Ev (fun k => spec_l9Shapes.f k l) (shapesB l) := by
  unfold spec_l9Shapes.f shapesB
  by_cases c : (l.length : Int) > 40
  · rw [decide_eq_false (show ¬ (l.length : Int) ≤ 40 by omega)]
    simp only [if_pos c, Bool.false_and]
    exact Ev.now _
  · rw [decide_eq_true (show (l.length : Int) ≤ 40 by omega)]
    simp only [if_neg c, Bool.true_and]
    have := spec_shapes_from l (by omega) l.length 0 (by omega) (by omega)
    rw [List.drop_zero] at this
    exact this
theorem impl_shapes (l : List S74) : impl_areShapes.f l = some (shapesB l) := by
  unfold impl_areShapes.f shapesB
  by_cases c : (l.length : Int) ≤ 40
  · have h : anyO impl_areShapes.on l = some (l.any fun a => !(sB a)) := anyO_some _ (fun a _ => by
      unfold impl_areShapes.on impl_areShapes_1.f
      rw [impl_shape]; rfl)
    rw [if_pos c, h, decide_eq_true c]
    simp only [Option.bind_some, Bool.true_and]
    congr 1
    rw [List.not_any_eq_all_not]
    simp
  · rw [if_neg c, decide_eq_false c, Bool.false_and]
theorem getD_at {l : List S74} {i : Nat} (h : i < l.length) : l.getD i z74 = l[i] := by simp [h]
def innerP (l : List S74) (i : Nat) : Nat → Nat → List S103 → List S103
  | 0, _, acc => acc
  | d + 1, j, acc => innerP l i d (j + 1) (if tB (l.getD i z74) (l.getD j z74) = true then acc ++ [⟨(i : Int), (j : Int)⟩] else acc)
def outerP (l : List S74) : Nat → Nat → List S103 → List S103
  | 0, _, acc => acc
  | d + 1, i, acc => outerP l d (i + 1) (innerP l i (l.length - (i + 1)) (i + 1) acc)
theorem innerP_le (l : List S74) (i : Nat) (d : Nat) : ∀ j acc, (innerP l i d j acc).length ≤ acc.length + d := by
  induction d with
  | zero => intro j acc; exact Nat.le_refl _
  | succ d ih =>
    intro j acc
    unfold innerP
    refine Nat.le_trans (ih _ _) ?_
    split
    · rw [List.length_append, List.length_singleton]; omega
    · omega
theorem outerP_le (l : List S74) (hl : l.length ≤ 40) (d : Nat) : ∀ i acc, (outerP l d i acc).length ≤ acc.length + 40 * d := by
  induction d with
  | zero => intro i acc; exact Nat.le_refl _
  | succ d ih =>
    intro i acc
    unfold outerP
    have h1 := ih (i + 1) (innerP l i (l.length - (i + 1)) (i + 1) acc)
    have h2 := innerP_le l i (l.length - (i + 1)) (i + 1) acc
    omega
theorem spec_inner (l : List S74) (hl : l.length ≤ 40) (hs : l.all sB = true) (i : Nat) (hi : i < l.length) (v : List S103) (d : Nat) : ∀ (j : Nat) (acc : List S103), l.length - j = d → j ≤ l.length → acc.length ≤ 4000 → Ev (fun k => spec_l9Pairs.l0 k l (innerP l i d j acc) (l.length : Int) ((i + 1 : Nat) : Int)) v → acc.length + d ≤ 4000 →
    Ev (fun k => spec_l9Pairs.l1 k l acc (i : Int) (j : Int) (l.length : Int) (i : Int)) v := by
  have good : ∀ (m : Nat) (h : m < l.length), sB l[m] = true := fun m h => List.all_eq_true.1 hs _ (List.getElem_mem h)
  induction d with
  | zero =>
    intro j acc hd hj ha hv _
    refine ev_succ ?_
    simp only [spec_l9Pairs.l1, if_neg (show ¬ (j : Int) < (l.length : Int) by omega), succ_cast hi (by omega)]
    exact hv
  | succ d ih =>
    intro j acc hd hj ha hv hb
    have hlt : j < l.length := by omega
    unfold innerP at hv
    rw [getD_at hi, getD_at hlt] at hv
    refine ev_succ ?_
    simp only [spec_l9Pairs.l1, if_pos (show (j : Int) < (l.length : Int) by omega), if_pos (show (0 : Int) ≤ (i : Int) by omega), if_pos (show (i : Int) < (l.length : Int) by omega), if_pos (show (0 : Int) ≤ (j : Int) by omega), rd74 hi, rd74 hlt, succ_cast hlt (by omega), if_pos (show acc.length < 8796093022208 by omega)]
    refine Ev.bind (spec_touch (good i hi) (good j hlt)) ?_
    have e : touchB l[i].f0 l[i].f1 l[i].f2 l[i].f3 l[i].f4 l[j].f0 l[j].f1 l[j].f2 l[j].f3 l[j].f4 = tB l[i] l[j] := rfl
    rw [e]
    cases ht : tB l[i] l[j] with
    | true =>
      rw [ht] at hv
      simp only [if_true] at hv ⊢
      exact ih (j + 1) _ (by omega) (by omega) (by rw [List.length_append, List.length_singleton]; omega) hv (by rw [List.length_append, List.length_singleton]; omega)
    | false =>
      rw [ht] at hv
      simp only [Bool.false_eq_true, if_false] at hv ⊢
      exact ih (j + 1) _ (by omega) (by omega) ha hv (by omega)
theorem spec_outer (l : List S74) (hl : l.length ≤ 40) (hs : l.all sB = true) (d : Nat) : ∀ (i : Nat) (acc : List S103), l.length - i = d → i ≤ l.length → acc.length + 40 * d ≤ 2000 → Ev (fun k => spec_l9Pairs.l0 k l acc (l.length : Int) (i : Int)) (outerP l d i acc) := by
  induction d with
  | zero =>
    intro i acc hd hi ha
    refine ev_succ ?_
    simp only [spec_l9Pairs.l0, if_neg (show ¬ (i : Int) < (l.length : Int) by omega)]
    exact Ev.now _
  | succ d ih =>
    intro i acc hd hi ha
    have hlt : i < l.length := by omega
    refine ev_succ ?_
    simp only [spec_l9Pairs.l0, if_pos (show (i : Int) < (l.length : Int) by omega), succ_cast hlt (by omega)]
    unfold outerP
    have h2 := innerP_le l i (l.length - (i + 1)) (i + 1) acc
    exact spec_inner l hl hs i hlt _ (l.length - (i + 1)) (i + 1) acc rfl (by omega) (by omega) (ih (i + 1) _ (by omega) (by omega) (by omega)) (by omega)
theorem impl_inner (l : List S74) (hl : l.length ≤ 40) (hs : l.all sB = true) (i : Nat) (hi : i < l.length) (v : List S103 × Bool) (d : Nat) : ∀ (j : Nat) (acc : List S103), l.length - j = d → j ≤ l.length → acc.length ≤ 4000 → Ev (fun k => impl_AllPairs.l0 k l (innerP l i d j acc) (l.length : Int) ((i + 1 : Nat) : Int)) v → acc.length + d ≤ 4000 →
    Ev (fun k => impl_AllPairs.l1 k l acc (i : Int) (j : Int) (l.length : Int) (i : Int)) v := by
  have good : ∀ (m : Nat) (h : m < l.length), sB l[m] = true := fun m h => List.all_eq_true.1 hs _ (List.getElem_mem h)
  induction d with
  | zero =>
    intro j acc hd hj ha hv _
    refine ev_succ ?_
    simp only [impl_AllPairs.l1, if_neg (show ¬ (j : Int) < (l.length : Int) by omega), succ_cast hi (by omega)]
    exact hv
  | succ d ih =>
    intro j acc hd hj ha hv hb
    have hlt : j < l.length := by omega
    unfold innerP at hv
    rw [getD_at hi, getD_at hlt] at hv
    refine ev_succ ?_
    simp only [impl_AllPairs.l1, if_pos (show (j : Int) < (l.length : Int) by omega), if_pos (show (0 : Int) ≤ (i : Int) by omega), if_pos (show (i : Int) < (l.length : Int) by omega), if_pos (show (0 : Int) ≤ (j : Int) by omega), rd74 hi, rd74 hlt, succ_cast hlt (by omega), if_pos (show acc.length < 8796093022208 by omega)]
    refine Ev.bind (impl_touch (good i hi) (good j hlt)) ?_
    have e : touchB l[i].f0 l[i].f1 l[i].f2 l[i].f3 l[i].f4 l[j].f0 l[j].f1 l[j].f2 l[j].f3 l[j].f4 = tB l[i] l[j] := rfl
    rw [e]
    cases ht : tB l[i] l[j] with
    | true =>
      rw [ht] at hv
      simp only [if_true] at hv ⊢
      exact ih (j + 1) _ (by omega) (by omega) (by rw [List.length_append, List.length_singleton]; omega) hv (by rw [List.length_append, List.length_singleton]; omega)
    | false =>
      rw [ht] at hv
      simp only [Bool.false_eq_true, if_false] at hv ⊢
      exact ih (j + 1) _ (by omega) (by omega) ha hv (by omega)
theorem impl_outer (l : List S74) (hl : l.length ≤ 40) (hs : l.all sB = true) (d : Nat) : ∀ (i : Nat) (acc : List S103), l.length - i = d → i ≤ l.length → acc.length + 40 * d ≤ 2000 → Ev (fun k => impl_AllPairs.l0 k l acc (l.length : Int) (i : Int)) (outerP l d i acc, true) := by
  induction d with
  | zero =>
    intro i acc hd hi ha
    refine ev_succ ?_
    simp only [impl_AllPairs.l0, if_neg (show ¬ (i : Int) < (l.length : Int) by omega)]
    exact Ev.now _
  | succ d ih =>
    intro i acc hd hi ha
    have hlt : i < l.length := by omega
    refine ev_succ ?_
    simp only [impl_AllPairs.l0, if_pos (show (i : Int) < (l.length : Int) by omega), succ_cast hlt (by omega)]
    unfold outerP
    have h2 := innerP_le l i (l.length - (i + 1)) (i + 1) acc
    exact impl_inner l hl hs i hlt _ (l.length - (i + 1)) (i + 1) acc rfl (by omega) (by omega) (ih (i + 1) _ (by omega) (by omega) (by omega)) (by omega)
def pairsV (l : List S74) : List S103 × Bool := if shapesB l = true then (outerP l l.length 0 [], true) else ([], false)
theorem pairsV_le (l : List S74) : (pairsV l).1.length ≤ 2000 := by
  unfold pairsV
  split
  · rename_i h
    have hl : l.length ≤ 40 := by
      unfold shapesB at h
      have := of_decide_eq_true (Bool.and_eq_true_iff.1 h).1; omega
    have := outerP_le l hl l.length 0 []
    simp only [List.length_nil] at this
    show (outerP l l.length 0 []).length ≤ 2000
    omega
  · exact Nat.zero_le _
theorem spec_all (l : List S74) : Ev (fun k => spec_AllPairs.f k l) (pairsV l) := by
  unfold spec_AllPairs.f pairsV
  refine Ev.bind (spec_shapes l) ?_
  cases h : shapesB l with
  | false => simp only [Bool.false_eq_true, if_false]; exact Ev.now _
  | true =>
    simp only [if_true]
    unfold shapesB at h
    obtain ⟨h1, h2⟩ := Bool.and_eq_true_iff.1 h
    have hl := of_decide_eq_true h1
    refine Ev.bind (spec_outer l (by omega) h2 l.length 0 [] (by omega) (by omega) (by simp only [List.length_nil]; omega)) (Ev.now _)
theorem impl_all (l : List S74) : Ev (fun k => impl_AllPairs.f k l) (pairsV l) := by
  unfold impl_AllPairs.f pairsV
  rw [impl_shapes]
  simp only [Option.bind_some]
  cases h : shapesB l with
  | false => simp only [Bool.false_eq_true, if_false]; exact Ev.now _
  | true =>
    simp only [if_true]
    unfold shapesB at h
    obtain ⟨h1, h2⟩ := Bool.and_eq_true_iff.1 h
    have hl := of_decide_eq_true h1
    exact impl_outer l (by omega) h2 l.length 0 [] (by omega) (by omega) (by simp only [List.length_nil]; omega)
theorem FnExactAllPairs : laws_FnExactAllPairs_Pure := by
  intro l hl
  have h1 : l.length ≤ 7036874417766 := by omega
  apply Ev.rounds (r := true)
  unfold laws_FnExactAllPairs.f laws_szShapeS.f
  by_cases h : wrap64 (1048576 - (l.length : Int)) < 0
  · simp only [if_pos h, Option.bind_some, show (-1 : Int) < 0 from by decide, if_true]
    exact Ev.now true
  · simp only [if_neg h, Option.bind_some]
    have hk := to_shapes l h1
    have h2 : (l.map shapeOf).length ≤ 17592186044416 := by rw [List.length_map]; omega
    generalize l.map shapeOf = s at *
    have hp := pairsV_le s
    have hsp := spec_all s
    have him := impl_all s
    generalize pairsV s = pv at *
    obtain ⟨v, b⟩ := pv
    have hp : v.length ≤ 2000 := hp
    have hev := eq_pairs v (by omega)
    obtain ⟨zs, hms⟩ := mark_shapes s h2
    obtain ⟨ys, hmk, hmp⟩ := mark_pairs v (by omega)
    have hh := held_pairs ys v.length hmk (by omega)
    refine Ev.bind hk (Ev.bind hsp (Ev.bind hk (Ev.bind him (Ev.bind hev ?_))))
    simp only [if_true, bne_self_eq_false]
    refine ev_succ ?_
    simp only [laws_FnExactAllPairs.j0, Bool.false_eq_true, if_false]
    refine Ev.bind hk (Ev.bind (eq_shapes s h2) ?_)
    simp only [if_true]
    refine Ev.bind hms ?_
    simp only [if_neg (show ¬ (1 + 5 * (s.length : Int) < 0) by omega)]
    refine Ev.bind hev ?_
    simp only [if_true, bne_self_eq_false]
    refine ev_succ ?_
    simp only [laws_FnExactAllPairs.j1, Bool.false_eq_true, if_false]
    refine Ev.bind hmp (Ev.bind hh ?_)
    simp only [if_neg (show ¬ (1 + 2 * (v.length : Int) < 0) by omega), if_true]
    refine Ev.bind hk (Ev.bind him (Ev.bind hev ?_))
    simp only [if_true, bne_self_eq_false]
    refine ev_succ ?_
    simp only [laws_FnExactAllPairs.j2, Bool.false_eq_true, if_false]
    refine Ev.bind hh ?_
    simp only [if_neg (show ¬ (1 + 2 * (v.length : Int) < 0) by omega), if_true]
    exact Ev.now true
end Go.Proofs.Ytlijlailbjjfbaa.Pure
