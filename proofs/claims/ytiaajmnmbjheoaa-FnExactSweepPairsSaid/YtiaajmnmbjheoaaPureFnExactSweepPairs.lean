/- The program's SweepPairs and the reference's answer alike at every shapes. No condition. -/
import Derived.Test.YtiaajmnmbjheoaaPFnExactSweepPairsx8
namespace Go.Proofs.Ytiaajmnmbjheoaa.Pure
open Go.RowKit Go.Proofs.Ytiaajmnmbjheoaa.PFnExactSweepPairs Go.Proofs.YtiaajmnmbjheoaaW.PrintWords Go.Proofs.YtiaajmnmbjheoaaW.PrintLast Go.Proofs.YtiaajmnmbjheoaaW.PrintMore
set_option linter.unusedVariables false
set_option linter.unusedSimpArgs false
/-- What can be read as a datum of type 111. -/
def Good111 (x : S111) : Prop := (Lit.int .i64 x.f0).wf = true ∧ (Lit.int .i64 x.f1).wf = true ∧ (Lit.int .i64 x.f2).wf = true ∧ (Lit.int .i64 x.f3).wf = true ∧ (Lit.int .i64 x.f4).wf = true
/-- The one pure statement. -/
def laws_FnExactSweepPairs_Pure : Prop := ∀ (l0 : (List S111)), (List.length l0 ≤ maxLen ∧ List.length l0 * 40 ≤ 140737488351232 ∧ ∀ y ∈ l0, Good111 y) → ∃ k, laws_FnExactSweepPairs.f k l0 = some true
/-! #### whole numbers: wraps, quotients towards nought -/
theorem wrap_small {i : Int} (h0 : -9223372036854775808 ≤ i) (h1 : i ≤ 9223372036854775807) : wrap64 i = i := by unfold wrap64; omega
theorem tdiv_pos {a b : Int} (ha : 0 ≤ a) : Int.tdiv a b = a / b := Int.tdiv_eq_ediv_of_nonneg ha
theorem tmod_pos {a b : Int} (ha : 0 ≤ a) : Int.tmod a b = a % b := Int.tmod_eq_emod_of_nonneg ha
theorem tdiv_neg' {a b : Int} (ha : a < 0) : Int.tdiv a b = -((-a) / b) := by
  rw [← Int.tdiv_eq_ediv_of_nonneg (a := -a) (by omega), Int.neg_tdiv, Int.neg_neg]
theorem tmod_neg' {a b : Int} (ha : a < 0) : Int.tmod a b = -((-a) % b) := by
  rw [← Int.tmod_eq_emod_of_nonneg (a := -a) (by omega), Int.neg_tmod, Int.neg_neg]
theorem wf64 {a : Int} (h : (Lit.int .i64 a).wf = true) : -9223372036854775808 ≤ a ∧ a ≤ 9223372036854775807 := by
  simp [Lit.wf, IntKind.min, IntKind.max, IntKind.signed, IntKind.bits] at h
  omega
theorem ev_succ {α : Type} {g : Nat → Option α} {r : α} (h : Ev (fun k => g (k + 1)) r) : Ev g r := Ev.step (f := fun k => g (k + 1)) (fun _ => rfl) h
theorem ev_eq {α : Type} {g : Nat → Option α} {r : α} (h : ∀ k, g k = some r) : Ev g r := ⟨0, fun k _ => h k⟩
theorem ev_val {α : Type} {g : Nat → Option α} {r r' : α} (h : Ev g r) (e : r = r') : Ev g r' := e ▸ h
/-! #### is a number in a span -/
def inB (a b c : Int) : Bool := decide (b ≤ a ∧ a ≤ c)
theorem inB_iff {a b c : Int} : inB a b c = true ↔ b ≤ a ∧ a ≤ c := by unfold inB; rw [decide_eq_true_eq]
theorem spec_in (a b c : Int) : spec_l1In.f a b c = some (inB a b c) := by
  unfold spec_l1In.f inB
  by_cases h : a ≥ b
  · rw [if_pos h]; congr 1; rw [decide_eq_decide]; omega
  · rw [if_neg h]; congr 1; exact (decide_eq_false (by omega)).symm
theorem impl_in (a b c : Int) : impl_inRange.f a b c = some (inB a b c) := by
  unfold impl_inRange.f inB
  by_cases h : b ≤ a
  · rw [if_pos h]; congr 1; rw [decide_eq_decide]; omega
  · rw [if_neg h]; congr 1; exact (decide_eq_false (by omega)).symm
/-! #### loops that go up, from a place on -/
theorem Ev_up {σ ρ : Type} (g : Nat → Nat → σ → Option ρ) (n : Nat) (Inv : Nat → σ → Prop) (Post : ρ → Prop)
    (hend : ∀ s, Inv n s → ∃ r, Ev (fun k => g k n s) r ∧ Post r)
    (hstep : ∀ i s, i < n → Inv i s → (∃ r, Ev (fun k => g k i s) r ∧ Post r) ∨ (∃ s', Inv (i + 1) s' ∧ ∀ r, Ev (fun k => g k (i + 1) s') r → Ev (fun k => g k i s) r))
    (d : Nat) : ∀ i s, n - i = d → i ≤ n → Inv i s → ∃ r, Ev (fun k => g k i s) r ∧ Post r := by
  induction d with
  | zero =>
    intro i s hd hi hs
    obtain rfl : i = n := by omega
    exact hend s hs
  | succ d ih =>
    intro i s hd hi hs
    rcases hstep i s (by omega) hs with h | ⟨s', hs', hg⟩
    · exact h
    · obtain ⟨r, hr, hp⟩ := ih (i + 1) s' (by omega) (by omega) hs'
      exact ⟨r, hg r hr, hp⟩
theorem succ_cast {i n : Nat} (h : i < n) (hn : n ≤ 9223372036854775806) : wrap64 ((i : Int) + 1) = ((i + 1 : Nat) : Int) := by
  rw [wrap_small (by omega) (by omega)]; omega
theorem drop_cons {α : Type} {l : List α} {i : Nat} (h : i < l.length) : l.drop i = l[i] :: l.drop (i + 1) := List.drop_eq_getElem_cons h
theorem rd_at {l : List Int} {i : Nat} (h : i < l.length) : rd l (i : Int) = l[i] := by simp [rd, h]
/-! #### loops that copy and loops that compare -/
theorem set_step {α β : Type} (g : α → β) (z : β) (l : List α) (i : Nat) (hi : i < l.length) : ((l.take i).map g ++ List.replicate (l.length - i) z).set i (g l[i]) = (l.take (i + 1)).map g ++ List.replicate (l.length - (i + 1)) z := by
  have e : l.length - i = (l.length - (i + 1)) + 1 := by omega
  have hl : ((l.take i).map g).length = i := by rw [List.length_map, List.length_take]; omega
  rw [e, List.replicate_succ, List.set_append_right _ _ (by omega), hl, Nat.sub_self, List.set_cons_zero, List.take_succ_eq_append_getElem hi, List.map_append, List.append_assoc]
  rfl
/-- A loop that sets each place of a fresh list. -/
theorem ev_map {α β : Type} (l : List α) (z : β) (g : α → β) (F : Nat → List β → Int → Option (List β)) (G : Nat → α → Option β) (hG : ∀ i (hi : i < l.length), Ev (fun k => G k l[i]) (g l[i]))
    (hstep : ∀ k (x : List β) (i : Nat) (hi : i < l.length), x.length = l.length → F (k + 1) x (i : Int) = (G k l[i]).bind fun v => F k (x.set i v) ((i + 1 : Nat) : Int))
    (hend : ∀ k (x : List β), F (k + 1) x (l.length : Int) = some x) : Ev (fun k => F k (List.replicate l.length z) 0) (l.map g) := by
  have main : ∀ d i, l.length - i = d → i ≤ l.length → Ev (fun k => F k ((l.take i).map g ++ List.replicate (l.length - i) z) (i : Int)) (l.map g) := by
    intro d
    induction d with
    | zero =>
      intro i hd hi
      obtain rfl : i = l.length := by omega
      refine ev_succ ?_
      simp only [hend, Nat.sub_self, List.replicate_zero, List.append_nil, List.take_length]
      exact Ev.now _
    | succ d ih =>
      intro i hd hi
      have hlt : i < l.length := by omega
      refine ev_succ ?_
      have hx : ((l.take i).map g ++ List.replicate (l.length - i) z).length = l.length := by
        rw [List.length_append, List.length_map, List.length_take, List.length_replicate]; omega
      simp only [hstep _ _ i hlt hx]
      refine Ev.bind (hG i hlt) ?_
      simp only [set_step g z l i hlt]
      exact ih (i + 1) (by omega) (by omega)
  have := main l.length 0 (by omega) (by omega)
  simp only [List.take_zero, List.map_nil, List.nil_append, Nat.sub_zero] at this
  exact this
/-- A loop that asks each place, and every place answers true. -/
theorem ev_trues {n : Nat} (F : Nat → Int → Option Bool) (G : Nat → Nat → Option Bool) (hG : ∀ i, i < n → Ev (fun k => G k i) true)
    (hstep : ∀ k (i : Nat), i < n → F (k + 1) (i : Int) = (G k i).bind fun t => if t = true then F k ((i + 1 : Nat) : Int) else some false)
    (hend : ∀ k, F (k + 1) (n : Int) = some true) : Ev (fun k => F k 0) true := by
  have main : ∀ d i, n - i = d → i ≤ n → Ev (fun k => F k (i : Int)) true := by
    intro d
    induction d with
    | zero =>
      intro i hd hi
      obtain rfl : i = n := by omega
      refine ev_succ ?_
      simp only [hend]
      exact Ev.now _
    | succ d ih =>
      intro i hd hi
      refine ev_succ ?_
      simp only [hstep _ i (show i < n by omega)]
      refine Ev.bind (hG i (by omega)) ?_
      simp only [if_true]
      exact ih (i + 1) (by omega) (by omega)
  exact main n 0 (by omega) (by omega)
theorem toNat_cast (i : Nat) : ((i : Int)).toNat = i := Int.toNat_natCast i
/-! #### good shapes -/
def shapeB (k x y w h : Int) : Bool := inB x (-100000) 100000 && (inB y (-100000) 100000 && (inB w 1 1000 && ((decide (k = 1) && inB h 1 1000) || (decide (k = 2) && (h == 0)))))
theorem spec_shape (k x y w h : Int) : spec_GoodShape.f k x y w h = some (shapeB k x y w h) := by
  unfold spec_GoodShape.f shapeB
  simp only [spec_in, Option.bind_some]
  cases inB x (-100000) 100000 <;> cases inB y (-100000) 100000 <;> cases inB w 1 1000 <;> cases inB h 1 1000 <;> by_cases h1 : k = 1 <;> by_cases h2 : k = 2 <;> simp [h1, h2] <;> omega
theorem impl_shape (k x y w h : Int) : impl_GoodShape.f k x y w h = some (shapeB k x y w h) := by
  unfold impl_GoodShape.f impl_isSpan.f shapeB
  simp only [impl_in, Option.bind_some]
  cases inB x (-100000) 100000 <;> cases inB y (-100000) 100000 <;> cases inB w 1 1000 <;> cases inB h 1 1000 <;> by_cases h1 : k = 1 <;> by_cases h2 : k = 2 <;> simp [h1, h2] <;> omega
theorem bounds_same (k x y w h : Int) : spec_l9Bounds.f k x y w h = impl_Shape_bounds.f k x y w h := rfl
/-- A shape's bounds: west, north, east, south. -/
def boundsV (k x y w h : Int) : Int × Int × Int × Int := if k = 1 then (x, y, wrap64 (x + w), wrap64 (y + h)) else (wrap64 (x - w), wrap64 (y - w), wrap64 (x + w), wrap64 (y + w))
theorem impl_bounds (k x y w h : Int) : impl_Shape_bounds.f k x y w h = some (boundsV k x y w h) := by
  unfold impl_Shape_bounds.f boundsV
  split <;> rfl
theorem spec_bounds (k x y w h : Int) : spec_l9Bounds.f k x y w h = some (boundsV k x y w h) := by rw [bounds_same, impl_bounds]
/-! #### do two good shapes touch -/
theorem wrap_lo {i : Int} (h0 : -4611686018427387904 ≤ i) (h1 : i ≤ 4611686018427387904) : wrap64 i = i := wrap_small (by omega) (by omega)
def nearB (a b c : Int) : Bool := decide (wrap64 (wrap64 (a * a) + wrap64 (b * b)) ≤ wrap64 (c * c))
def gapV (x lo hi : Int) : Int := if x < lo then wrap64 (lo - x) else if x > hi then wrap64 (x - hi) else 0
theorem spec_gap (x lo hi : Int) : spec_l9Gap.f x lo hi = some (gapV x lo hi) := by
  unfold spec_l9Gap.f gapV
  split
  · rfl
  · split <;> rfl
theorem gap_square {x lo hi : Int} (h : lo ≤ hi) (a0 : -1000000 ≤ x) (a1 : x ≤ 1000000) (b0 : -1000000 ≤ lo) (b1 : lo ≤ 1000000) (c0 : -1000000 ≤ hi) (c1 : hi ≤ 1000000) :
    wrap64 (x - mn (mx x lo) hi) * wrap64 (x - mn (mx x lo) hi) = gapV x lo hi * gapV x lo hi := by
  unfold gapV
  by_cases h1 : x < lo
  · rw [if_pos h1]
    have e : mn (mx x lo) hi = lo := by unfold mn mx; rw [if_pos h1, if_neg (by omega)]
    rw [e, wrap_lo (by omega) (by omega), wrap_lo (by omega) (by omega), show x - lo = -(lo - x) by omega, Int.neg_mul_neg]
  · rw [if_neg h1]
    by_cases h2 : x > hi
    · rw [if_pos h2]
      have e : mn (mx x lo) hi = hi := by unfold mn mx; rw [if_neg h1, if_pos (by omega)]
      rw [e]
    · rw [if_neg h2]
      have e : mn (mx x lo) hi = x := by unfold mn mx; rw [if_neg h1, if_neg (by omega)]
      rw [e, Int.sub_self, wrap_small (i := 0) (by omega) (by omega)]
theorem shapeB_bounds {k x y w h : Int} (hs : shapeB k x y w h = true) : -100000 ≤ x ∧ x ≤ 100000 ∧ -100000 ≤ y ∧ y ≤ 100000 ∧ 1 ≤ w ∧ w ≤ 1000 ∧ ((k = 1 ∧ 1 ≤ h ∧ h ≤ 1000) ∨ (k = 2 ∧ h = 0)) := by
  unfold shapeB at hs
  simp only [Bool.and_eq_true, Bool.or_eq_true, inB_iff, decide_eq_true_eq, beq_iff_eq] at hs
  omega
/-- The reference's answer for a disk and a box. -/
def diskBox (dx dy dr k x y w h : Int) : Bool := nearB (gapV dx (boundsV k x y w h).1 (boundsV k x y w h).2.2.1) (gapV dy (boundsV k x y w h).2.1 (boundsV k x y w h).2.2.2) dr
def boxBox (k x y w h k' x' y' w' h' : Int) : Bool :=
  decide ((boundsV k' x' y' w' h').1 ≤ (boundsV k x y w h).2.2.1 ∧ (boundsV k x y w h).1 ≤ (boundsV k' x' y' w' h').2.2.1 ∧ (boundsV k' x' y' w' h').2.1 ≤ (boundsV k x y w h).2.2.2 ∧ (boundsV k x y w h).2.1 ≤ (boundsV k' x' y' w' h').2.2.2)
/-- Whether two good shapes touch. -/
def touchB (k x y w h k' x' y' w' h' : Int) : Bool :=
  if k = 2 then (if k' = 2 then nearB (wrap64 (x - x')) (wrap64 (y - y')) (wrap64 (w + w')) else diskBox x y w k' x' y' w' h')
  else (if k' = 2 then diskBox x' y' w' k x y w h else boxBox k x y w h k' x' y' w' h')
theorem spec_touch {k x y w h k' x' y' w' h' : Int} (hs : shapeB k x y w h = true) (hs' : shapeB k' x' y' w' h' = true) :
    Ev (fun q => spec_l9Touch.f q k x y w h k' x' y' w' h') (touchB k x y w h k' x' y' w' h') := by
  obtain ⟨b1, b2, b3, b4, b5, b6, b7⟩ := shapeB_bounds hs
  obtain ⟨c1, c2, c3, c4, c5, c6, c7⟩ := shapeB_bounds hs'
  refine ⟨3, fun q hq => ?_⟩
  obtain ⟨q, rfl⟩ : ∃ m, q = m + 3 := ⟨q - 3, by omega⟩
  show spec_l9Touch.f (q + 3) k x y w h k' x' y' w' h' = some (touchB k x y w h k' x' y' w' h')
  unfold spec_l9Touch.f touchB
  rcases b7 with ⟨rfl, b7, b8⟩ | ⟨rfl, rfl⟩ <;> rcases c7 with ⟨rfl, c7, c8⟩ | ⟨rfl, rfl⟩
  · rw [if_neg (by omega), if_neg (by omega), if_neg (by omega)]
    simp only [spec_l9Touch.j0, Bool.false_eq_true, if_false, if_true]
    simp only [spec_l9Touch.j1, spec_l9Touch.j2, spec_bounds, Option.bind_some, show ((1 : Int) == 2) = false from rfl, Bool.false_eq_true, if_false]
    rw [if_neg (by omega)]
    unfold boxBox
    generalize boundsV 1 x y w h = v
    generalize boundsV 1 x' y' w' h' = v'
    by_cases e1 : v'.1 ≤ v.2.2.1 <;> by_cases e2 : v.1 ≤ v'.2.2.1 <;> by_cases e3 : v'.2.1 ≤ v.2.2.2 <;> simp [e1, e2, e3]
  · rw [if_neg (by omega), if_neg (by omega), if_pos (by omega)]
    simp only [spec_l9Touch.j0, Bool.false_eq_true, if_false, if_true]
    simp only [spec_l9Touch.j1, spec_l9Touch.j2, spec_bounds, Option.bind_some, show ((2 : Int) == 2) = true from rfl, if_true, spec_gap]
    rfl
  · rw [if_pos (by omega), if_pos (by omega), if_neg (by omega)]
    simp only [spec_l9Touch.j0, show ((1 : Int) == 2) = false from rfl, Bool.false_eq_true, if_false]
    rw [if_neg (by omega)]
    simp only [spec_l9Touch.j1, spec_l9Touch.j2, spec_bounds, Option.bind_some, Bool.false_eq_true, if_false, if_true, spec_gap]
    rfl
  · rw [if_pos (by omega), if_pos (by omega), if_pos (by omega)]
    simp only [spec_l9Touch.j0, show ((2 : Int) == 2) = true from rfl, if_true]
    rfl
theorem impl_touch_box {x y w h k' x' y' w' h' : Int} (hs : shapeB 1 x y w h = true) (hs' : shapeB k' x' y' w' h' = true) (q : Nat) :
    impl_touch.f (q + 2) 1 x y w h k' x' y' w' h' = some (touchB 1 x y w h k' x' y' w' h') := by
  obtain ⟨b1, b2, b3, b4, b5, b6, b7⟩ := shapeB_bounds hs
  obtain ⟨c1, c2, c3, c4, c5, c6, c7⟩ := shapeB_bounds hs'
  rw [impl_touch.f, if_neg (by omega)]
  unfold touchB
  rw [if_neg (by omega)]
  simp only [impl_touch.j0, Bool.false_eq_true, if_false]
  rw [if_neg (by omega), impl_bounds]
  simp only [Option.bind_some]
  rcases c7 with ⟨rfl, c7, c8⟩ | ⟨rfl, rfl⟩
  · rw [if_neg (by omega), if_neg (by omega), impl_bounds]
    simp only [Option.bind_some]
    unfold boxBox
    generalize boundsV 1 x y w h = v
    generalize boundsV 1 x' y' w' h' = v'
    by_cases e1 : v'.1 ≤ v.2.2.1 <;> by_cases e2 : v.1 ≤ v'.2.2.1 <;> by_cases e3 : v'.2.1 ≤ v.2.2.2 <;> by_cases e4 : v.2.1 ≤ v'.2.2.2 <;> simp [e1, e2, e3, e4]
  · rw [if_pos (by omega), if_pos (by omega)]
    unfold impl_clamp.f impl_near.f diskBox nearB
    simp only [Option.bind_some]
    have d7 : 1 ≤ h ∧ h ≤ 1000 := by omega
    have ev : boundsV 1 x y w h = (x, y, x + w, y + h) := by
      unfold boundsV
      rw [if_pos rfl, wrap_lo (by omega) (by omega), wrap_lo (by omega) (by omega)]
    rw [ev]
    dsimp only
    rw [gap_square (by omega) (by omega) (by omega) (by omega) (by omega) (by omega) (by omega), gap_square (by omega) (by omega) (by omega) (by omega) (by omega) (by omega) (by omega)]
theorem touch_swap {k x y w h k' x' y' w' h' : Int} (hk : k = 2) (hk' : k' = 1) : touchB k x y w h k' x' y' w' h' = touchB k' x' y' w' h' k x y w h := by
  subst hk hk'
  rfl
theorem impl_touch {k x y w h k' x' y' w' h' : Int} (hs : shapeB k x y w h = true) (hs' : shapeB k' x' y' w' h' = true) :
    Ev (fun q => impl_touch.f q k x y w h k' x' y' w' h') (touchB k x y w h k' x' y' w' h') := by
  obtain ⟨b1, b2, b3, b4, b5, b6, b7⟩ := shapeB_bounds hs
  obtain ⟨c1, c2, c3, c4, c5, c6, c7⟩ := shapeB_bounds hs'
  refine ⟨4, fun q hq => ?_⟩
  obtain ⟨q, rfl⟩ : ∃ m, q = m + 4 := ⟨q - 4, by omega⟩
  show impl_touch.f (q + 4) k x y w h k' x' y' w' h' = some (touchB k x y w h k' x' y' w' h')
  rcases b7 with ⟨rfl, b7, b8⟩ | ⟨rfl, rfl⟩
  · exact impl_touch_box hs hs' (q + 2)
  · rw [impl_touch.f, if_pos rfl]
    rcases c7 with ⟨rfl, c7, c8⟩ | ⟨rfl, rfl⟩
    · rw [impl_touch.j0, show ((1 : Int) == 2) = false from rfl, if_neg (by decide), if_pos rfl, impl_touch_box hs' hs q, touch_swap rfl rfl]
      rfl
    · rw [impl_touch.j0, show ((2 : Int) == 2) = true from rfl, if_pos rfl]
      rfl
/-! #### shapes: converted, held against one another, marked; are all good (of the seat with RayMeets) -/
def shapeOf (x : S111) : S100 := ⟨x.f0, x.f1, x.f2, x.f3, x.f4⟩
theorem rd111 {l : List S111} {i : Nat} (h : i < l.length) : rd_T111 l (i : Int) = l[i] := by simp [rd_T111, h]
theorem rd100 {l : List S100} {i : Nat} (h : i < l.length) : rd_T100 l (i : Int) = l[i] := by simp [rd_T100, h]
theorem to_shapes (l : List S111) (hl : l.length ≤ 7036874417766) : Ev (fun k => laws_toShapeS.f k l) (l.map shapeOf) := by
  unfold laws_toShapeS.f
  simp only [if_pos (show (0 : Int) ≤ (l.length : Int) by omega), toNat_cast, if_pos hl]
  refine ev_map l z100 shapeOf (fun k x i => laws_toShapeS.l0 k l x i) (fun _ x => some (shapeOf x)) (fun _ _ => Ev.now _) ?_ ?_
  · intro k x i hi hx
    simp only [laws_toShapeS.l0, if_pos (show (i : Int) < (l.length : Int) by omega), if_pos (show (0 : Int) ≤ (i : Int) by omega), laws_toShape.f, Option.bind_some, if_pos (show (i : Int) < (x.length : Int) by omega), rd111 hi, toNat_cast, succ_cast hi (by omega)]
    rfl
  · intro k x
    simp only [laws_toShapeS.l0, if_neg (show ¬ (l.length : Int) < (l.length : Int) by omega)]
theorem eq_shapes (l : List S100) (hl : l.length ≤ 17592186044416) : Ev (fun k => laws_eqShapeS.f k l l) true := by
  unfold laws_eqShapeS.f
  simp only [if_true]
  refine ev_trues (n := l.length) (fun k i => laws_eqShapeS.l0 k l l i) (fun _ _ => some true) (fun _ _ => Ev.now _) ?_ ?_
  · intro k i hi
    simp only [laws_eqShapeS.l0, if_pos (show (i : Int) < (l.length : Int) by omega), if_pos (show (0 : Int) ≤ (i : Int) by omega), laws_eqShape.f, if_true, Option.bind_some, rd100 hi, succ_cast hi (by omega)]
  · intro k
    simp only [laws_eqShapeS.l0, if_neg (show ¬ (l.length : Int) < (l.length : Int) by omega)]
theorem mark_shapes_from (n : Nat) (hn : n ≤ 17592186044416) (d : Nat) : ∀ (i : Nat) (xs : List S100) (m : Int), n - i = d → i ≤ n → xs.length = n → m = 1 + 5 * (i : Int) → ∃ ys, Ev (fun k => laws_markShapeS.l0 k xs m (i : Int)) (1 + 5 * (n : Int), ys) := by
  induction d with
  | zero =>
    intro i xs m hd hi hx hm
    refine ⟨xs, ev_succ ?_⟩
    have : i = n := by omega
    simp only [laws_markShapeS.l0, if_neg (show ¬ (i : Int) < (xs.length : Int) by omega)]
    rw [hm, this]
    exact Ev.now _
  | succ d ih =>
    intro i xs m hd hi hx hm
    have g1 : n - (i + 1) = d := by omega
    have g2 : i + 1 ≤ n := by omega
    have g3 : m + 1 + 1 + 1 + 1 + 1 = 1 + 5 * ((i + 1 : Nat) : Int) := by omega
    have i0 : (i : Int) < (xs.length : Int) := by omega
    have i1 : (0 : Int) ≤ (i : Int) := by omega
    have es : wrap64 ((i : Int) + 1) = ((i + 1 : Nat) : Int) := by rw [wrap_small (by omega) (by omega)]; omega
    have e1 : wrap64 (m + 1) = m + 1 := wrap_small (by omega) (by omega)
    have e2 : wrap64 (m + 1 + 1) = m + 1 + 1 := wrap_small (by omega) (by omega)
    have e3 : wrap64 (m + 1 + 1 + 1) = m + 1 + 1 + 1 := wrap_small (by omega) (by omega)
    have e4 : wrap64 (m + 1 + 1 + 1 + 1) = m + 1 + 1 + 1 + 1 := wrap_small (by omega) (by omega)
    have e5 : wrap64 (m + 1 + 1 + 1 + 1 + 1) = m + 1 + 1 + 1 + 1 + 1 := wrap_small (by omega) (by omega)
    have key : ∀ zs : List S100, zs.length = n → ∃ ys, Ev (fun k => laws_markShapeS.l0 k zs (m + 1 + 1 + 1 + 1 + 1) ((i + 1 : Nat) : Int)) (1 + 5 * (n : Int), ys) := fun zs hz => ih (i + 1) zs _ g1 g2 hz g3
    suffices h : ∃ ys, Ev (fun k => laws_markShapeS.l0 (k + 1) xs m (i : Int)) (1 + 5 * (n : Int), ys) from h.elim fun ys hy => ⟨ys, ev_succ hy⟩
    simp only [laws_markShapeS.l0, if_pos i0, if_pos i1, Option.bind_some, e1, e2, e3, e4, e5, es]
    exact key _ (by simp only [List.length_set]; exact hx)
theorem mark_shapes (l : List S100) (hl : l.length ≤ 17592186044416) : ∃ ys, Ev (fun k => laws_markShapeS.f k l 1) (1 + 5 * (l.length : Int), ys) := mark_shapes_from l.length hl l.length 0 l 1 (by omega) (by omega) rfl (by omega)
def sB (x : S100) : Bool := shapeB x.f0 x.f1 x.f2 x.f3 x.f4
def shapesB (l : List S100) : Bool := decide ((l.length : Int) ≤ 40) && l.all sB
theorem spec_shapes_from (l : List S100) (hl : l.length ≤ 40) (d : Nat) : ∀ i : Nat, l.length - i = d → i ≤ l.length → Ev (fun k => spec_l9Shapes.l0 k l (l.length : Int) (i : Int)) ((l.drop i).all sB) := by
  induction d with
  | zero =>
    intro i hd hi
    have e : l.drop i = [] := List.drop_eq_nil_of_le (by omega)
    rw [e]
    refine ev_succ ?_
    simp only [spec_l9Shapes.l0, if_neg (show ¬ (i : Int) < (l.length : Int) by omega)]
    exact Ev.now _
  | succ d ih =>
    intro i hd hi
    have hlt : i < l.length := by omega
    rw [drop_cons hlt, List.all_cons]
    refine ev_succ ?_
    simp only [spec_l9Shapes.l0, if_pos (show (i : Int) < (l.length : Int) by omega), if_pos (show (0 : Int) ≤ (i : Int) by omega), spec_shape, rd100 hlt, succ_cast hlt (by omega), Option.bind_some]
    have e : shapeB l[i].f0 l[i].f1 l[i].f2 l[i].f3 l[i].f4 = sB l[i] := rfl
    rw [e]
    cases hb : sB l[i] with
    | true =>
      simp only [if_true, Bool.true_and]
      exact ih (i + 1) (by omega) (by omega)
    | false =>
      simp only [Bool.false_eq_true, if_false, Bool.false_and]
      exact Ev.now _
theorem spec_shapes (l : List S100) : Ev (fun k => spec_l9Shapes.f k l) (shapesB l) := by
  unfold spec_l9Shapes.f shapesB
  by_cases c : (l.length : Int) > 40
  · rw [decide_eq_false (show ¬ (l.length : Int) ≤ 40 by omega)]
    simp only [if_pos c, Bool.false_and]
    exact Ev.now _
  · rw [decide_eq_true (show (l.length : Int) ≤ 40 by omega)]
    simp only [if_neg c, Bool.true_and]
    have := spec_shapes_from l (by omega) l.length 0 (by omega) (by omega)
    rw [List.drop_zero] at this
    exact this
theorem impl_shapes (l : List S100) : impl_areShapes.f l = some (shapesB l) := by
  unfold impl_areShapes.f shapesB
  by_cases c : (l.length : Int) ≤ 40
  · have h : anyO impl_areShapes.on l = some (l.any fun a => !(sB a)) := anyO_some _ (fun a _ => by
      unfold impl_areShapes.on impl_areShapes_1.f
      rw [impl_shape]; rfl)
    rw [if_pos c, h, decide_eq_true c]
    simp only [Option.bind_some, Bool.true_and]
    congr 1
    rw [List.not_any_eq_all_not]
    simp
  · rw [if_neg c, decide_eq_false c, Bool.false_and]
/-! #### pairs: held against one another, marked; the pairs that touch, by rows (of the seat with SweepPairs) -/
theorem rd90 {l : List S90} {i : Nat} (h : i < l.length) : rd_T90 l (i : Int) = l[i] := by simp [rd_T90, h]
theorem eq_pairs (l : List S90) (hl : l.length ≤ 17592186044416) : Ev (fun k => laws_eqPairS.f k l l) true := by
  unfold laws_eqPairS.f
  simp only [if_true]
  refine ev_trues (n := l.length) (fun k i => laws_eqPairS.l0 k l l i) (fun _ _ => some true) (fun _ _ => Ev.now _) ?_ ?_
  · intro k i hi
    simp only [laws_eqPairS.l0, if_pos (show (i : Int) < (l.length : Int) by omega), if_pos (show (0 : Int) ≤ (i : Int) by omega), laws_eqPair.f, if_true, Option.bind_some, rd90 hi, succ_cast hi (by omega)]
  · intro k
    simp only [laws_eqPairS.l0, if_neg (show ¬ (l.length : Int) < (l.length : Int) by omega)]
def markedP (ys : List S90) (n : Nat) : Prop := ys.length = n ∧ ∀ j (h : j < ys.length), ys[j] = (⟨1 + 2 * (j : Int), 2 + 2 * (j : Int)⟩ : S90)
theorem mark_pairs_from (n : Nat) (hn : n ≤ 17592186044416) (d : Nat) : ∀ (i : Nat) (xs : List S90) (m : Int), n - i = d → i ≤ n → xs.length = n → m = 1 + 2 * (i : Int) → (∀ j (h : j < xs.length), j < i → xs[j] = (⟨1 + 2 * (j : Int), 2 + 2 * (j : Int)⟩ : S90)) → ∃ ys, markedP ys n ∧ Ev (fun k => laws_markPairS.l0 k xs m (i : Int)) (1 + 2 * (n : Int), ys) := by
  induction d with
  | zero =>
    intro i xs m hd hi hx hm hj
    have : i = n := by omega
    refine ⟨xs, ⟨hx, fun j h => hj j h (by omega)⟩, ev_succ ?_⟩
    simp only [laws_markPairS.l0, if_neg (show ¬ (i : Int) < (xs.length : Int) by omega)]
    rw [hm, this]
    exact Ev.now _
  | succ d ih =>
    intro i xs m hd hi hx hm hj
    have hlt : i < xs.length := by omega
    have e1 : wrap64 (m + 1) = m + 1 := wrap_small (by omega) (by omega)
    have e2 : wrap64 (m + 1 + 1) = m + 1 + 1 := wrap_small (by omega) (by omega)
    have es : wrap64 ((i : Int) + 1) = ((i + 1 : Nat) : Int) := by rw [wrap_small (by omega) (by omega)]; omega
    have hs0 : ∀ k, laws_markPairS.l0 (k + 1) xs m (i : Int) = laws_markPairS.l0 k ((xs.set i (⟨m, (xs[i]).f1⟩ : S90)).set i (⟨m, m + 1⟩ : S90)) (m + 1 + 1) ((i + 1 : Nat) : Int) := by
      intro k
      have hg : rd_T90 (xs.set i (⟨m, (xs[i]).f1⟩ : S90)) (i : Int) = (⟨m, (xs[i]).f1⟩ : S90) := by
        rw [rd90 (by rw [List.length_set]; exact hlt), List.getElem_set_self]
      simp only [laws_markPairS.l0, if_pos (show (i : Int) < (xs.length : Int) by omega), if_pos (show (0 : Int) ≤ (i : Int) by omega), Option.bind_some, e1, e2, es, toNat_cast, rd90 hlt, hg]
    obtain ⟨ys, hm2, hy⟩ := ih (i + 1) ((xs.set i (⟨m, (xs[i]).f1⟩ : S90)).set i (⟨m, m + 1⟩ : S90)) (m + 1 + 1) (by omega) (by omega) (by simp only [List.length_set]; exact hx) (by omega) (by
      intro j h h2
      by_cases e : j = i
      · subst e
        rw [List.getElem_set_self, hm]
        congr 1
        omega
      · rw [List.getElem_set_ne (fun h => e h.symm), List.getElem_set_ne (fun h => e h.symm)]
        exact hj j (by simpa using h) (by omega))
    refine ⟨ys, hm2, ev_succ ?_⟩
    simp only [hs0]
    exact hy
theorem mark_pairs (l : List S90) (hl : l.length ≤ 17592186044416) : ∃ ys, markedP ys l.length ∧ Ev (fun k => laws_markPairS.f k l 1) (1 + 2 * (l.length : Int), ys) :=
  mark_pairs_from l.length hl l.length 0 l 1 (by omega) (by omega) rfl (by omega) (fun j h h2 => absurd h2 (Nat.not_lt_zero _))
theorem held_pairs_from (ys : List S90) (n : Nat) (hy : markedP ys n) (hn : n ≤ 17592186044416) (d : Nat) : ∀ (i : Nat) (m : Int), n - i = d → i ≤ n → m = 1 + 2 * (i : Int) → Ev (fun k => laws_heldPairS.l0 k ys m (i : Int)) (1 + 2 * (n : Int)) := by
  obtain ⟨h1, h2⟩ := hy
  induction d with
  | zero =>
    intro i m hd hi hm
    have : i = n := by omega
    refine ev_succ ?_
    simp only [laws_heldPairS.l0, if_neg (show ¬ (i : Int) < (ys.length : Int) by omega)]
    rw [hm, this]
    exact Ev.now _
  | succ d ih =>
    intro i m hd hi hm
    have hlt : i < ys.length := by omega
    have e1 : wrap64 (m + 1) = m + 1 := wrap_small (by omega) (by omega)
    have e2 : wrap64 (m + 1 + 1) = m + 1 + 1 := wrap_small (by omega) (by omega)
    have es : wrap64 ((i : Int) + 1) = ((i + 1 : Nat) : Int) := by rw [wrap_small (by omega) (by omega)]; omega
    have g := h2 i hlt
    refine ev_succ ?_
    simp only [laws_heldPairS.l0, if_pos (show (i : Int) < (ys.length : Int) by omega), if_pos (show (0 : Int) ≤ (i : Int) by omega), rd90 hlt, g, e1, e2, es, if_pos (show 1 + 2 * (i : Int) = m by omega), if_pos (show 2 + 2 * (i : Int) = m + 1 by omega)]
    exact ih (i + 1) _ (by omega) (by omega) (by omega)
theorem held_pairs (ys : List S90) (n : Nat) (hy : markedP ys n) (hn : n ≤ 17592186044416) : Ev (fun k => laws_heldPairS.f k ys 1) (1 + 2 * (n : Int)) := held_pairs_from ys n hy hn n 0 1 (by omega) (by omega) (by omega)
def tB (x y : S100) : Bool := touchB x.f0 x.f1 x.f2 x.f3 x.f4 y.f0 y.f1 y.f2 y.f3 y.f4
theorem getD_at {l : List S100} {i : Nat} (h : i < l.length) : l.getD i z100 = l[i] := by simp [h]
def innerP (l : List S100) (i : Nat) : Nat → Nat → List S90 → List S90
  | 0, _, acc => acc
  | d + 1, j, acc => innerP l i d (j + 1) (if tB (l.getD i z100) (l.getD j z100) = true then acc ++ [⟨(i : Int), (j : Int)⟩] else acc)
def outerP (l : List S100) : Nat → Nat → List S90 → List S90
  | 0, _, acc => acc
  | d + 1, i, acc => outerP l d (i + 1) (innerP l i (l.length - (i + 1)) (i + 1) acc)
theorem innerP_le (l : List S100) (i : Nat) (d : Nat) : ∀ j acc, (innerP l i d j acc).length ≤ acc.length + d := by
  induction d with
  | zero => intro j acc; exact Nat.le_refl _
  | succ d ih =>
    intro j acc
    unfold innerP
    refine Nat.le_trans (ih _ _) ?_
    split
    · rw [List.length_append, List.length_singleton]; omega
    · omega
theorem outerP_le (l : List S100) (hl : l.length ≤ 40) (d : Nat) : ∀ i acc, (outerP l d i acc).length ≤ acc.length + 40 * d := by
  induction d with
  | zero => intro i acc; exact Nat.le_refl _
  | succ d ih =>
    intro i acc
    unfold outerP
    have h1 := ih (i + 1) (innerP l i (l.length - (i + 1)) (i + 1) acc)
    have h2 := innerP_le l i (l.length - (i + 1)) (i + 1) acc
    omega
theorem spec_inner (l : List S100) (hl : l.length ≤ 40) (hs : l.all sB = true) (i : Nat) (hi : i < l.length) (v : List S90) (d : Nat) : ∀ (j : Nat) (acc : List S90), l.length - j = d → j ≤ l.length → acc.length ≤ 4000 → Ev (fun k => spec_l9Pairs.l0 k l (innerP l i d j acc) (l.length : Int) ((i + 1 : Nat) : Int)) v → acc.length + d ≤ 4000 →
    Ev (fun k => spec_l9Pairs.l1 k l acc (i : Int) (j : Int) (l.length : Int) (i : Int)) v := by
  have good : ∀ (m : Nat) (h : m < l.length), sB l[m] = true := fun m h => List.all_eq_true.1 hs _ (List.getElem_mem h)
  induction d with
  | zero =>
    intro j acc hd hj ha hv _
    refine ev_succ ?_
    simp only [spec_l9Pairs.l1, if_neg (show ¬ (j : Int) < (l.length : Int) by omega), succ_cast hi (by omega)]
    exact hv
  | succ d ih =>
    intro j acc hd hj ha hv hb
    have hlt : j < l.length := by omega
    unfold innerP at hv
    rw [getD_at hi, getD_at hlt] at hv
    refine ev_succ ?_
    simp only [spec_l9Pairs.l1, if_pos (show (j : Int) < (l.length : Int) by omega), if_pos (show (0 : Int) ≤ (i : Int) by omega), if_pos (show (i : Int) < (l.length : Int) by omega), if_pos (show (0 : Int) ≤ (j : Int) by omega), rd100 hi, rd100 hlt, succ_cast hlt (by omega), if_pos (show acc.length < 8796093022208 by omega)]
    refine Ev.bind (spec_touch (good i hi) (good j hlt)) ?_
    have e : touchB l[i].f0 l[i].f1 l[i].f2 l[i].f3 l[i].f4 l[j].f0 l[j].f1 l[j].f2 l[j].f3 l[j].f4 = tB l[i] l[j] := rfl
    rw [e]
    cases ht : tB l[i] l[j] with
    | true =>
      rw [ht] at hv
      simp only [if_true] at hv ⊢
      exact ih (j + 1) _ (by omega) (by omega) (by rw [List.length_append, List.length_singleton]; omega) hv (by rw [List.length_append, List.length_singleton]; omega)
    | false =>
      rw [ht] at hv
      simp only [Bool.false_eq_true, if_false] at hv ⊢
      exact ih (j + 1) _ (by omega) (by omega) ha hv (by omega)
theorem spec_outer (l : List S100) (hl : l.length ≤ 40) (hs : l.all sB = true) (d : Nat) : ∀ (i : Nat) (acc : List S90), l.length - i = d → i ≤ l.length → acc.length + 40 * d ≤ 2000 → Ev (fun k => spec_l9Pairs.l0 k l acc (l.length : Int) (i : Int)) (outerP l d i acc) := by
  induction d with
  | zero =>
    intro i acc hd hi ha
    refine ev_succ ?_
    simp only [spec_l9Pairs.l0, if_neg (show ¬ (i : Int) < (l.length : Int) by omega)]
    exact Ev.now _
  | succ d ih =>
    intro i acc hd hi ha
    have hlt : i < l.length := by omega
    refine ev_succ ?_
    simp only [spec_l9Pairs.l0, if_pos (show (i : Int) < (l.length : Int) by omega), succ_cast hlt (by omega)]
    unfold outerP
    have h2 := innerP_le l i (l.length - (i + 1)) (i + 1) acc
    exact spec_inner l hl hs i hlt _ (l.length - (i + 1)) (i + 1) acc rfl (by omega) (by omega) (ih (i + 1) _ (by omega) (by omega) (by omega)) (by omega)
/-! #### pairs of a list, by rows and by columns -/
def prs : List Nat → List (Nat × Nat)
  | [] => []
  | x :: t => t.map (fun y => (x, y)) ++ prs t
def colP (pre : List Nat) : List Nat → List (Nat × Nat)
  | [] => []
  | i :: t => pre.map (fun k => (k, i)) ++ colP (pre ++ [i]) t
def cross : List Nat → List Nat → List (Nat × Nat)
  | [], _ => []
  | a :: p, r => r.map (fun y => (a, y)) ++ cross p r
theorem cross_nil (p : List Nat) : cross p [] = [] := by
  induction p with
  | nil => rfl
  | cons a p ih => simp [cross, ih]
theorem cross_cons (q : Nat × Nat → Bool) (i : Nat) (t : List Nat) (p : List Nat) : (cross p (i :: t)).countP q = (p.map (fun k => (k, i))).countP q + (cross p t).countP q := by
  induction p with
  | nil => simp [cross]
  | cons a p ih =>
    simp only [cross, List.map_cons, List.countP_append, List.countP_cons, ih]
    omega
theorem cross_snoc (q : Nat × Nat → Bool) (i : Nat) (t : List Nat) (p : List Nat) : (cross (p ++ [i]) t).countP q = (cross p t).countP q + (t.map (fun y => (i, y))).countP q := by
  induction p with
  | nil => simp [cross]
  | cons a p ih =>
    simp only [List.cons_append, cross, List.countP_append, ih]
    omega
theorem col_count (q : Nat × Nat → Bool) (r : List Nat) : ∀ pre, (colP pre r).countP q = (cross pre r).countP q + (prs r).countP q := by
  induction r with
  | nil => intro pre; simp [colP, prs, cross_nil]
  | cons i t ih =>
    intro pre
    simp only [colP, prs, List.countP_append, ih, cross_snoc, cross_cons]
    omega
theorem prs_perm {q : Nat × Nat → Bool} (hq : ∀ a b, q (a, b) = q (b, a)) {o o' : List Nat} (h : o.Perm o') : (prs o).countP q = (prs o').countP q := by
  induction h with
  | nil => rfl
  | cons x h ih =>
    simp only [prs, List.countP_append, ih]
    rw [(h.map (fun y => (x, y))).countP_eq]
  | swap x y l =>
    simp only [prs, List.countP_append, List.map_cons, List.countP_cons, hq y x]
    omega
  | trans _ _ h1 h2 => exact h1.trans h2
theorem col_prs {q : Nat × Nat → Bool} (hq : ∀ a b, q (a, b) = q (b, a)) {o o' : List Nat} (h : o.Perm o') : (colP [] o).countP q = (prs o').countP q := by
  rw [col_count, prs_perm hq h]
  simp [cross]
theorem col_mem {R : Nat → Nat → Prop} (r : List Nat) : ∀ pre, (pre ++ r).Pairwise R → ∀ x ∈ colP pre r, R x.1 x.2 ∧ x.1 ∈ pre ++ r ∧ x.2 ∈ pre ++ r := by
  induction r with
  | nil => intro pre _ x hx; simp [colP] at hx
  | cons i t ih =>
    intro pre hp x hx
    simp only [colP, List.mem_append, List.mem_map] at hx
    rcases hx with ⟨k, hk, rfl⟩ | hx
    · exact ⟨(List.pairwise_append.1 hp).2.2 k hk i (by simp), by simp [hk], by simp⟩
    · have := ih (pre ++ [i]) (by simpa using hp) x hx
      simpa using this
theorem prs_mem {R : Nat → Nat → Prop} (r : List Nat) : r.Pairwise R → ∀ x ∈ prs r, R x.1 x.2 ∧ x.1 ∈ r ∧ x.2 ∈ r := by
  induction r with
  | nil => intro _ x hx; simp [prs] at hx
  | cons i t ih =>
    intro hp x hx
    simp only [prs, List.mem_append, List.mem_map] at hx
    rcases hx with ⟨k, hk, rfl⟩ | hx
    · exact ⟨(List.pairwise_cons.1 hp).1 k hk, by simp, by simp [hk]⟩
    · have := ih (List.pairwise_cons.1 hp).2 x hx
      exact ⟨this.1, by simp [this.2.1], by simp [this.2.2]⟩
def normP (x : Nat × Nat) : Nat × Nat := if x.1 ≤ x.2 then x else (x.2, x.1)
theorem normP_swap (a b : Nat) : normP (a, b) = normP (b, a) := by
  unfold normP
  dsimp only
  rcases Nat.lt_trichotomy a b with h | h | h
  · rw [if_pos (by omega), if_neg (by omega)]
  · subst h; rfl
  · rw [if_neg (by omega), if_pos (by omega)]
theorem range_lt (n : Nat) : (List.range n).Pairwise (· < ·) := List.pairwise_lt_range
theorem prs_norm {n : Nat} {x : Nat × Nat} (hx : x ∈ prs (List.range n)) : x.1 < x.2 ∧ x.1 < n ∧ x.2 < n ∧ normP x = x := by
  obtain ⟨h1, h2, h3⟩ := prs_mem _ (range_lt n) x hx
  have h1 : x.1 < x.2 := h1
  exact ⟨h1, by simpa using h2, by simpa using h3, if_pos (by omega)⟩
/-- How many pairs of an order a test of the pair without order lets by: as many as of the range. -/
theorem col_range {n : Nat} {o : List Nat} (h : o.Perm (List.range n)) (p : Nat × Nat → Bool) (q : Nat × Nat → Bool) (hq : ∀ x ∈ colP [] o, q x = p (normP x)) : (colP [] o).countP q = (prs (List.range n)).countP p := by
  have e1 : (colP [] o).countP q = (colP [] o).countP (fun x => p (normP x)) := List.countP_congr fun x hx => by rw [hq x hx]
  rw [e1, col_prs (q := fun x => p (normP x)) (fun a b => by rw [normP_swap]) h]
  exact List.countP_congr fun x hx => by rw [(prs_norm hx).2.2.2]
/-- Those pairs themselves. -/
theorem col_perm {n : Nat} {o : List Nat} (h : o.Perm (List.range n)) (p : Nat × Nat → Bool) (q : Nat × Nat → Bool) (hq : ∀ x ∈ colP [] o, q x = p (normP x)) : (((colP [] o).filter q).map normP).Perm ((prs (List.range n)).filter p) := by
  rw [List.perm_iff_count]
  intro a
  rw [List.count_eq_countP, List.count_eq_countP, List.countP_map, List.countP_filter, List.countP_filter]
  refine (col_range h (fun x => x == a && p x) _ fun x hx => ?_)
  simp only [Function.comp, hq x hx]
/-! #### the sort of the pairs is known by its members -/
theorem prs_sorted (r : List Nat) (h : r.Pairwise (· < ·)) : (prs r).Pairwise fun x y => x.1 < y.1 ∨ x.1 = y.1 ∧ x.2 < y.2 := by
  induction r with
  | nil => exact List.Pairwise.nil
  | cons i t ih =>
    obtain ⟨h1, h2⟩ := List.pairwise_cons.1 h
    simp only [prs]
    refine List.pairwise_append.2 ⟨?_, ih h2, ?_⟩
    · exact (List.pairwise_map.2 (h2.imp fun hab => .inr ⟨rfl, hab⟩))
    · intro x hx y hy
      obtain ⟨k, hk, rfl⟩ := List.mem_map.1 hx
      exact .inl (h1 _ (prs_mem t h2 y hy).2.1)
/-! #### touching shapes: the order of the two does not matter, and they overlap in x -/
def bo (x : S100) : Int × Int × Int × Int := boundsV x.f0 x.f1 x.f2 x.f3 x.f4
theorem near_comm {a b c d : Int} (h1 : wrap64 (a - b) * wrap64 (a - b) = wrap64 (b - a) * wrap64 (b - a)) (h2 : wrap64 (c - d) * wrap64 (c - d) = wrap64 (d - c) * wrap64 (d - c)) (r : Int) : nearB (wrap64 (a - b)) (wrap64 (c - d)) r = nearB (wrap64 (b - a)) (wrap64 (d - c)) r := by
  unfold nearB
  rw [h1, h2]
theorem sq_swap {a b : Int} (a0 : -100000 ≤ a) (a1 : a ≤ 100000) (b0 : -100000 ≤ b) (b1 : b ≤ 100000) : wrap64 (a - b) * wrap64 (a - b) = wrap64 (b - a) * wrap64 (b - a) := by
  rw [wrap_small (by omega) (by omega), wrap_small (by omega) (by omega), show a - b = -(b - a) by omega, Int.neg_mul_neg]
theorem tB_comm {x y : S100} (hx : sB x = true) (hy : sB y = true) : tB x y = tB y x := by
  obtain ⟨b1, b2, b3, b4, b5, b6, b7⟩ := shapeB_bounds hx
  obtain ⟨c1, c2, c3, c4, c5, c6, c7⟩ := shapeB_bounds hy
  unfold tB touchB
  rcases b7 with ⟨e, b7, b8⟩ | ⟨e, e'⟩ <;> rcases c7 with ⟨d, c7, c8⟩ | ⟨d, d'⟩
  · rw [if_neg (by omega), if_neg (by omega), if_neg (by omega), if_neg (by omega)]
    unfold boxBox
    rw [decide_eq_decide]
    omega
  · rw [if_neg (by omega), if_pos (by omega), if_pos (by omega), if_neg (by omega)]
  · rw [if_pos (by omega), if_neg (by omega), if_neg (by omega), if_pos (by omega)]
  · rw [if_pos (by omega), if_pos (by omega), if_pos (by omega), if_pos (by omega), near_comm (sq_swap b1 b2 c1 c2) (sq_swap b3 b4 c3 c4), Int.add_comm x.f3 y.f3]
theorem sq_nonneg (b : Int) : 0 ≤ b * b := by
  rcases Int.le_total 0 b with h | h
  · exact Int.mul_nonneg h h
  · exact Int.mul_nonneg_of_nonpos_of_nonpos h h
theorem sq_small {a m : Int} (h0 : -m ≤ a) (h1 : a ≤ m) : a * a ≤ m * m := by
  rcases Int.le_total 0 a with h | h
  · exact Int.mul_le_mul h1 h1 h (by omega)
  · rw [show a * a = (-a) * (-a) by rw [Int.neg_mul_neg]]
    exact Int.mul_le_mul (by omega) (by omega) (by omega) (by omega)
theorem near_le {a b c : Int} (ha0 : -1000000 ≤ a) (ha1 : a ≤ 1000000) (hb0 : -1000000 ≤ b) (hb1 : b ≤ 1000000) (hc0 : 0 ≤ c) (hc1 : c ≤ 1000000) (h : nearB a b c = true) : a ≤ c ∧ -c ≤ a := by
  unfold nearB at h
  have h := of_decide_eq_true h
  have ea := sq_small ha0 ha1
  have eb := sq_small hb0 hb1
  have ec := sq_small (m := 1000000) (show -1000000 ≤ c by omega) hc1
  have na := sq_nonneg a
  have nb := sq_nonneg b
  have nc := sq_nonneg c
  have e1 : wrap64 (a * a) = a * a := wrap_small (by omega) (by omega)
  have e2 : wrap64 (b * b) = b * b := wrap_small (by omega) (by omega)
  have e3 : wrap64 (c * c) = c * c := wrap_small (by omega) (by omega)
  rw [e1, e2, e3, wrap_small (by omega) (by omega)] at h
  have key : a * a ≤ c * c := by omega
  constructor
  · refine Classical.byContradiction fun hn => ?_
    have := Int.mul_le_mul (show c + 1 ≤ a by omega) (show c + 1 ≤ a by omega) (by omega) (by omega)
    have e : (c + 1) * (c + 1) = c * c + 2 * c + 1 := by rw [Int.add_mul, Int.mul_add]; omega
    omega
  · refine Classical.byContradiction fun hn => ?_
    have := Int.mul_le_mul (show c + 1 ≤ -a by omega) (show c + 1 ≤ -a by omega) (by omega) (by omega)
    have e : (c + 1) * (c + 1) = c * c + 2 * c + 1 := by rw [Int.add_mul, Int.mul_add]; omega
    rw [Int.neg_mul_neg] at this
    omega
theorem gap_le {x lo hi w : Int} (h : lo ≤ hi) (a0 : -110000 ≤ x) (a1 : x ≤ 110000) (b0 : -110000 ≤ lo) (b1 : lo ≤ 110000) (c0 : -110000 ≤ hi) (c1 : hi ≤ 110000) (hg : gapV x lo hi ≤ w) (hw : 0 ≤ w) : lo ≤ x + w ∧ x - w ≤ hi := by
  unfold gapV at hg
  split at hg
  · rw [wrap_small (by omega) (by omega)] at hg; omega
  · split at hg
    · rw [wrap_small (by omega) (by omega)] at hg; omega
    · omega
theorem gap_range {x lo hi : Int} (a0 : -110000 ≤ x) (a1 : x ≤ 110000) (b0 : -110000 ≤ lo) (b1 : lo ≤ 110000) (c0 : -110000 ≤ hi) (c1 : hi ≤ 110000) : -1000000 ≤ gapV x lo hi ∧ gapV x lo hi ≤ 1000000 := by
  unfold gapV
  split
  · rw [wrap_small (by omega) (by omega)]; omega
  · split
    · rw [wrap_small (by omega) (by omega)]; omega
    · omega
theorem bo_box {x : S100} (h : x.f0 = 1) (b1 : -100000 ≤ x.f1) (b2 : x.f1 ≤ 100000) (b3 : -100000 ≤ x.f2) (b4 : x.f2 ≤ 100000) (b5 : 1 ≤ x.f3) (b6 : x.f3 ≤ 1000) (b7 : 1 ≤ x.f4) (b8 : x.f4 ≤ 1000) : boundsV x.f0 x.f1 x.f2 x.f3 x.f4 = (x.f1, x.f2, x.f1 + x.f3, x.f2 + x.f4) := by
  unfold boundsV
  rw [if_pos h, wrap_small (by omega) (by omega), wrap_small (by omega) (by omega)]
theorem bo_disk {x : S100} (h : x.f0 = 2) (b1 : -100000 ≤ x.f1) (b2 : x.f1 ≤ 100000) (b3 : -100000 ≤ x.f2) (b4 : x.f2 ≤ 100000) (b5 : 1 ≤ x.f3) (b6 : x.f3 ≤ 1000) : boundsV x.f0 x.f1 x.f2 x.f3 x.f4 = (x.f1 - x.f3, x.f2 - x.f3, x.f1 + x.f3, x.f2 + x.f3) := by
  unfold boundsV
  rw [if_neg (by omega), wrap_small (by omega) (by omega), wrap_small (by omega) (by omega), wrap_small (by omega) (by omega), wrap_small (by omega) (by omega)]
theorem tB_over {x y : S100} (hx : sB x = true) (hy : sB y = true) (h : tB x y = true) : (bo x).1 ≤ (bo y).2.2.1 ∧ (bo y).1 ≤ (bo x).2.2.1 := by
  obtain ⟨b1, b2, b3, b4, b5, b6, b7⟩ := shapeB_bounds hx
  obtain ⟨c1, c2, c3, c4, c5, c6, c7⟩ := shapeB_bounds hy
  unfold tB touchB at h
  unfold bo
  rcases b7 with ⟨e, b7, b8⟩ | ⟨e, e'⟩ <;> rcases c7 with ⟨d, c7, c8⟩ | ⟨d, d'⟩
  · rw [if_neg (by omega), if_neg (by omega)] at h
    unfold boxBox at h
    have h := of_decide_eq_true h
    exact ⟨h.2.1, h.1⟩
  · rw [if_neg (by omega), if_pos (by omega)] at h
    unfold diskBox at h
    rw [bo_box e b1 b2 b3 b4 b5 b6 b7 b8] at h ⊢
    rw [bo_disk d c1 c2 c3 c4 c5 c6]
    dsimp only at h ⊢
    have g1 := gap_range (x := y.f1) (lo := x.f1) (hi := x.f1 + x.f3) (by omega) (by omega) (by omega) (by omega) (by omega) (by omega)
    have g2 := gap_range (x := y.f2) (lo := x.f2) (hi := x.f2 + x.f4) (by omega) (by omega) (by omega) (by omega) (by omega) (by omega)
    have hn := near_le g1.1 g1.2 g2.1 g2.2 (by omega) (by omega) h
    have hg := gap_le (x := y.f1) (lo := x.f1) (hi := x.f1 + x.f3) (by omega) (by omega) (by omega) (by omega) (by omega) (by omega) (by omega) hn.1 (by omega)
    omega
  · rw [if_pos (by omega), if_neg (by omega)] at h
    unfold diskBox at h
    rw [bo_box d c1 c2 c3 c4 c5 c6 c7 c8] at h ⊢
    rw [bo_disk e b1 b2 b3 b4 b5 b6]
    dsimp only at h ⊢
    have g1 := gap_range (x := x.f1) (lo := y.f1) (hi := y.f1 + y.f3) (by omega) (by omega) (by omega) (by omega) (by omega) (by omega)
    have g2 := gap_range (x := x.f2) (lo := y.f2) (hi := y.f2 + y.f4) (by omega) (by omega) (by omega) (by omega) (by omega) (by omega)
    have hn := near_le g1.1 g1.2 g2.1 g2.2 (by omega) (by omega) h
    have hg := gap_le (x := x.f1) (lo := y.f1) (hi := y.f1 + y.f3) (by omega) (by omega) (by omega) (by omega) (by omega) (by omega) (by omega) hn.1 (by omega)
    omega
  · rw [if_pos (by omega), if_pos (by omega)] at h
    rw [bo_disk e b1 b2 b3 b4 b5 b6, bo_disk d c1 c2 c3 c4 c5 c6]
    dsimp only
    rw [wrap_small (by omega) (by omega), wrap_small (by omega) (by omega), wrap_small (by omega) (by omega)] at h
    have hn := near_le (by omega) (by omega) (by omega) (by omega) (by omega) (by omega) h
    omega
/-! #### the reference's count -/
def loZ (l : List S100) (i : Nat) : Int := (bo (l.getD i z100)).1
def hiZ (l : List S100) (i : Nat) : Int := (bo (l.getD i z100)).2.2.1
/-- Whether the reference looks at the pair. -/
def seenN (l : List S100) (x : Nat × Nat) : Bool := decide (loZ l x.1 ≤ loZ l x.2 ∧ hiZ l x.1 ≥ loZ l x.2 ∨ loZ l x.2 < loZ l x.1 ∧ hiZ l x.2 ≥ loZ l x.1)
theorem rdZ (l : List S100) (i : Nat) : rd_T100 l (i : Int) = l.getD i z100 := by simp [rd_T100]
theorem cnt_cast (c : Nat) (h : c ≤ 4000) : wrap64 ((c : Int) + 1) = ((c + 1 : Nat) : Int) := by rw [wrap_small (by omega) (by omega)]; omega
theorem spec_look_in (l : List S100) (hl : l.length ≤ 40) (i : Nat) (hi : i < l.length) (v : List S90 × Int × Bool) (d : Nat) : ∀ (j c : Nat), l.length - j = d → j ≤ l.length → c + d ≤ 4000 → Ev (fun k => spec_SweepPairs.l0 k l ((c + ((List.range' j d).map (fun y => (i, y))).countP (seenN l) : Nat) : Int) (l.length : Int) ((i + 1 : Nat) : Int)) v →
    Ev (fun k => spec_SweepPairs.l1 k l (c : Int) (i : Int) (j : Int) (l.length : Int) (i : Int)) v := by
  induction d with
  | zero =>
    intro j c hd hj hc hv
    refine ev_succ ?_
    simp only [spec_SweepPairs.l1, if_neg (show ¬ (j : Int) < (l.length : Int) by omega), succ_cast hi (by omega)]
    simpa using hv
  | succ d ih =>
    intro j c hd hj hc hv
    have hlt : j < l.length := by omega
    rw [List.range'_succ, List.map_cons, List.countP_cons] at hv
    refine ev_succ ?_
    simp only [spec_SweepPairs.l1, if_pos (show (j : Int) < (l.length : Int) by omega), if_pos (show (0 : Int) ≤ (i : Int) by omega), if_pos (show (i : Int) < (l.length : Int) by omega), if_pos (show (0 : Int) ≤ (j : Int) by omega), rdZ, succ_cast hlt (by omega), spec_bounds, Option.bind_some, cnt_cast c (by omega)]
    have e : seenN l (i, j) = decide (loZ l i ≤ loZ l j ∧ hiZ l i ≥ loZ l j ∨ loZ l j < loZ l i ∧ hiZ l j ≥ loZ l i) := rfl
    unfold loZ hiZ bo at e
    rw [e] at hv
    generalize boundsV (l.getD i z100).f0 (l.getD i z100).f1 (l.getD i z100).f2 (l.getD i z100).f3 (l.getD i z100).f4 = A at hv ⊢
    generalize boundsV (l.getD j z100).f0 (l.getD j z100).f1 (l.getD j z100).f2 (l.getD j z100).f3 (l.getD j z100).f4 = B at hv ⊢
    have hT : (A.1 ≤ B.1 ∧ A.2.2.1 ≥ B.1 ∨ B.1 < A.1 ∧ B.2.2.1 ≥ A.1) → Ev (fun k => spec_SweepPairs.l1 k l ((c + 1 : Nat) : Int) (i : Int) ((j + 1 : Nat) : Int) (l.length : Int) (i : Int)) v := fun h => by
      rw [decide_eq_true h, if_pos rfl] at hv
      refine ih (j + 1) (c + 1) (by omega) (by omega) (by omega) ?_
      rw [show c + 1 + ((List.range' (j + 1) d).map (fun y => (i, y))).countP (seenN l) = c + (((List.range' (j + 1) d).map (fun y => (i, y))).countP (seenN l) + 1) by omega]
      exact hv
    have hF : ¬ (A.1 ≤ B.1 ∧ A.2.2.1 ≥ B.1 ∨ B.1 < A.1 ∧ B.2.2.1 ≥ A.1) → Ev (fun k => spec_SweepPairs.l1 k l (c : Int) (i : Int) ((j + 1 : Nat) : Int) (l.length : Int) (i : Int)) v := fun h => by
      rw [decide_eq_false h, if_neg (by decide), Nat.add_zero] at hv
      exact ih (j + 1) c (by omega) (by omega) (by omega) hv
    by_cases h1 : A.1 ≤ B.1
    · by_cases h2 : A.2.2.1 ≥ B.1
      · simp only [if_pos h1, if_pos h2]
        exact hT (.inl ⟨h1, h2⟩)
      · simp only [if_pos h1, if_neg h2, if_neg (show ¬ B.1 < A.1 by omega)]
        exact hF (by omega)
    · have h3 : B.1 < A.1 := by omega
      by_cases h4 : B.2.2.1 ≥ A.1
      · simp only [if_neg h1, if_pos h3, if_pos h4]
        exact hT (.inr ⟨h3, h4⟩)
      · simp only [if_neg h1, if_pos h3, if_neg h4]
        exact hF (by omega)
theorem spec_look (l : List S100) (hl : l.length ≤ 40) (v : List S90 × Int × Bool) (d : Nat) : ∀ (i c : Nat), l.length - i = d → i ≤ l.length → c + 40 * d ≤ 2000 → Ev (fun k => (spec_l9Pairs.f k l).bind fun t => some (t, ((c + (prs (List.range' i d)).countP (seenN l) : Nat) : Int), true)) v →
    Ev (fun k => spec_SweepPairs.l0 k l (c : Int) (l.length : Int) (i : Int)) v := by
  induction d with
  | zero =>
    intro i c hd hi hc hv
    refine ev_succ ?_
    simp only [spec_SweepPairs.l0, if_neg (show ¬ (i : Int) < (l.length : Int) by omega)]
    simpa [prs] using hv
  | succ d ih =>
    intro i c hd hi hc hv
    have hlt : i < l.length := by omega
    refine ev_succ ?_
    simp only [spec_SweepPairs.l0, if_pos (show (i : Int) < (l.length : Int) by omega), succ_cast hlt (by omega)]
    have hle : ((List.range' (i + 1) d).map (fun y => (i, y))).countP (seenN l) ≤ 40 := by
      refine Nat.le_trans List.countP_le_length ?_
      rw [List.length_map, List.length_range']; omega
    refine spec_look_in l hl i hlt v d (i + 1) c (by omega) (by omega) (by omega) ?_
    refine ih (i + 1) _ (by omega) (by omega) (by omega) ?_
    rw [List.range'_succ] at hv
    simp only [prs, List.countP_append] at hv
    rw [Nat.add_assoc]
    exact hv
/-! #### the pairs that touch, by rows -/
def toS (x : Nat × Nat) : S90 := ⟨(x.1 : Int), (x.2 : Int)⟩
def touN (l : List S100) (x : Nat × Nat) : Bool := tB (l.getD x.1 z100) (l.getD x.2 z100)
theorem innerP_eq (l : List S100) (i : Nat) (d : Nat) : ∀ j acc, innerP l i d j acc = acc ++ (((List.range' j d).map (fun y => (i, y))).filter (touN l)).map toS := by
  induction d with
  | zero => intro j acc; simp [innerP]
  | succ d ih =>
    intro j acc
    unfold innerP
    rw [ih, List.range'_succ, List.map_cons, List.filter_cons]
    have e : touN l (i, j) = tB (l.getD i z100) (l.getD j z100) := rfl
    rw [e]
    split
    · rw [List.append_assoc]; rfl
    · rfl
theorem outerP_eq (l : List S100) (d : Nat) : ∀ i acc, l.length - i = d → i ≤ l.length → outerP l d i acc = acc ++ ((prs (List.range' i d)).filter (touN l)).map toS := by
  induction d with
  | zero => intro i acc _ _; simp [outerP, prs]
  | succ d ih =>
    intro i acc hd hi
    unfold outerP
    rw [ih _ _ (by omega) (by omega), innerP_eq, List.range'_succ, show l.length - (i + 1) = d by omega]
    simp only [prs, List.filter_append, List.map_append, List.append_assoc]
def sweepV (l : List S100) : List S90 × Int × Bool := if shapesB l = true then (((prs (List.range l.length)).filter (touN l)).map toS, ((prs (List.range l.length)).countP (seenN l) : Nat), true) else ([], 0, false)
theorem spec_sweep (l : List S100) : Ev (fun k => spec_SweepPairs.f k l) (sweepV l) := by
  unfold spec_SweepPairs.f sweepV
  refine Ev.bind (spec_shapes l) ?_
  cases h : shapesB l with
  | false => simp only [Bool.false_eq_true, if_false]; exact Ev.now _
  | true =>
    simp only [if_true]
    unfold shapesB at h
    obtain ⟨h1, h2⟩ := Bool.and_eq_true_iff.1 h
    have hl := of_decide_eq_true h1
    refine spec_look l (by omega) _ l.length 0 0 (by omega) (by omega) (by omega) ?_
    refine Ev.bind (spec_outer l (by omega) h2 l.length 0 [] (by omega) (by omega) (by simp only [List.length_nil]; omega)) ?_
    rw [outerP_eq l l.length 0 [] (by omega) (by omega), ← List.range_eq_range', List.nil_append, Nat.zero_add]
    exact Ev.now _
/-! #### the program's order, count and pairs -/
def cast (o : List Nat) : List Int := o.map (fun i : Nat => (i : Int))
theorem cast_len (o : List Nat) : (cast o).length = o.length := List.length_map _
theorem rd_cast {o : List Nat} {i : Nat} (h : i < o.length) : rd (cast o) (i : Int) = ((o[i] : Nat) : Int) := by
  have h2 : i < (cast o).length := by rw [cast_len]; exact h
  rw [rd_at h2]
  simp [cast]
def gI (l : List S100) (x : Nat × Nat) : Bool := !(decide (hiZ l x.1 < loZ l x.2))
def qI (l : List S100) (x : Nat × Nat) : Bool := gI l x && tB (l.getD x.2 z100) (l.getD x.1 z100)
def toN (x : Nat × Nat) : S90 := ⟨mn (x.2 : Int) (x.1 : Int), mx (x.2 : Int) (x.1 : Int)⟩
theorem good_at {l : List S100} (hs : l.all sB = true) {i : Nat} (h : i < l.length) : sB (l.getD i z100) = true := by
  rw [getD_at h]; exact List.all_eq_true.1 hs _ (List.getElem_mem h)
theorem impl_in_loop (l : List S100) (hl : l.length ≤ 40) (hs : l.all sB = true) (o : List Nat) (ho : o.length = l.length) (i : Nat) (hi : i < l.length) (pre : List Nat) (hp : ∀ z ∈ pre, z < l.length) (hpl : pre.length < l.length) (v : List S90 × Int × Bool) (d : Nat) : ∀ (j c : Nat) (out : List S90), pre.length - j = d → j ≤ pre.length → c + d ≤ 4000 → out.length + d ≤ 4000 →
    Ev (fun k => impl_SweepPairs.l1 k l (cast o) (out ++ (((pre.drop j).map (fun z => (z, i))).filter (qI l)).map toN) ((c + ((pre.drop j).map (fun z => (z, i))).countP (gI l) : Nat) : Int) (cast o) (l.length : Int) ((pre.length + 1 : Nat) : Int)) v →
    Ev (fun k => impl_SweepPairs.l2 k l (cast o) out (c : Int) (i : Int) (cast o) (l.length : Int) (pre.length : Int) (cast pre) (pre.length : Int) (j : Int)) v := by
  induction d with
  | zero =>
    intro j c out hd hj hc hu hv
    rw [List.drop_eq_nil_of_le (by omega)] at hv
    refine ev_succ ?_
    simp only [impl_SweepPairs.l2, if_neg (show ¬ (j : Int) < (pre.length : Int) by omega), succ_cast hpl (by omega)]
    simpa using hv
  | succ d ih =>
    intro j c out hd hj hc hu hv
    have hlt : j < pre.length := by omega
    have hz := hp _ (List.getElem_mem hlt)
    rw [drop_cons hlt, List.map_cons, List.filter_cons, List.countP_cons] at hv
    refine ev_succ ?_
    simp only [impl_SweepPairs.l2, if_pos (show (j : Int) < (pre.length : Int) by omega), if_pos (show (0 : Int) ≤ (j : Int) by omega), cast_len, rd_cast hlt, if_pos (show (0 : Int) ≤ ((pre[j] : Nat) : Int) by omega), if_pos (show ((pre[j] : Nat) : Int) < (l.length : Int) by omega), rdZ, impl_bounds, Option.bind_some, if_pos (show (0 : Int) ≤ (i : Int) by omega), if_pos (show (i : Int) < (l.length : Int) by omega), succ_cast hlt (by omega), if_pos (show out.length < 8796093022208 by omega), cnt_cast c (by omega)]
    have e1 : gI l (pre[j], i) = !(decide (hiZ l pre[j] < loZ l i)) := rfl
    have e2 : qI l (pre[j], i) = (gI l (pre[j], i) && tB (l.getD i z100) (l.getD pre[j] z100)) := rfl
    rw [e2, e1] at hv
    show Ev (fun k => if hiZ l pre[j] < loZ l i then _ else _) v
    by_cases h : hiZ l pre[j] < loZ l i
    · simp only [if_pos h]
      rw [decide_eq_true h] at hv
      exact ih (j + 1) c out (by omega) (by omega) (by omega) (by omega) (by simpa using hv)
    · simp only [if_neg h]
      rw [decide_eq_false h] at hv
      refine Ev.bind (impl_touch (good_at hs hi) (good_at hs hz)) ?_
      have et : touchB (l.getD i z100).f0 (l.getD i z100).f1 (l.getD i z100).f2 (l.getD i z100).f3 (l.getD i z100).f4 (l.getD pre[j] z100).f0 (l.getD pre[j] z100).f1 (l.getD pre[j] z100).f2 (l.getD pre[j] z100).f3 (l.getD pre[j] z100).f4 = tB (l.getD i z100) (l.getD pre[j] z100) := rfl
      rw [et]
      have ec : c + 1 + ((pre.drop (j + 1)).map (fun z => (z, i))).countP (gI l) = c + (((pre.drop (j + 1)).map (fun z => (z, i))).countP (gI l) + 1) := by omega
      cases ht : tB (l.getD i z100) (l.getD pre[j] z100) with
      | true =>
        rw [ht] at hv
        simp only [Bool.not_false, Bool.true_and, if_true, List.map_cons] at hv ⊢
        refine ih (j + 1) (c + 1) _ (by omega) (by omega) (by omega) (by rw [List.length_append, List.length_singleton]; omega) ?_
        rw [ec, List.append_assoc]
        exact hv
      | false =>
        rw [ht] at hv
        simp only [Bool.not_false, Bool.true_and, Bool.false_eq_true, if_false, if_true] at hv ⊢
        refine ih (j + 1) (c + 1) _ (by omega) (by omega) (by omega) (by omega) ?_
        rw [ec]
        exact hv
theorem impl_out_loop (l : List S100) (hl : l.length ≤ 40) (hs : l.all sB = true) (o : List Nat) (ho : o.length = l.length) (hm : ∀ z ∈ o, z < l.length) (v : List S90 × Int × Bool) (rest : List Nat) : ∀ (pre : List Nat) (c : Nat) (out : List S90), o = pre ++ rest → c + 40 * rest.length ≤ 2000 → out.length + 40 * rest.length ≤ 2000 →
    Ev (fun _ => (impl_Pair.f (out ++ ((colP pre rest).filter (qI l)).map toN)).bind fun t => some (t, ((c + (colP pre rest).countP (gI l) : Nat) : Int), true)) v →
    Ev (fun k => impl_SweepPairs.l1 k l (cast o) out (c : Int) (cast o) (l.length : Int) (pre.length : Int)) v := by
  induction rest with
  | nil =>
    intro pre c out he hc hu hv
    have hpl : pre.length = l.length := by rw [he] at ho; simpa using ho
    refine ev_succ ?_
    simp only [impl_SweepPairs.l1, if_neg (show ¬ (pre.length : Int) < (l.length : Int) by omega)]
    simpa [colP] using hv
  | cons i t ih =>
    intro pre c out he hc hu hv
    have hol : pre.length < o.length := by rw [he]; simp
    have hpl : pre.length < l.length := by omega
    have hoi : o[pre.length] = i := by simp [he]
    have hi : i < l.length := hm i (by rw [he]; simp)
    have htk : (cast o).take pre.length = cast pre := by simp [he, cast]
    simp only [List.length_cons] at hc hu
    have hle : (pre.map (fun z => (z, i))).countP (gI l) ≤ 40 := by
      refine Nat.le_trans List.countP_le_length ?_
      rw [List.length_map]; omega
    have hle2 : (((pre.map (fun z => (z, i))).filter (qI l)).map toN).length ≤ 40 := by
      rw [List.length_map]
      refine Nat.le_trans (List.length_filter_le _ _) ?_
      rw [List.length_map]; omega
    refine ev_succ ?_
    simp only [impl_SweepPairs.l1, if_pos (show (pre.length : Int) < (l.length : Int) by omega), if_pos (show (0 : Int) ≤ (pre.length : Int) by omega), cast_len, if_pos (show (pre.length : Int) < (o.length : Int) by omega), if_pos (show (pre.length : Int) ≤ (o.length : Int) by omega), toNat_cast, Option.bind_some, htk, rd_cast hol, hoi]
    refine impl_in_loop l hl hs o ho i hi pre (fun z hz => hm z (by rw [he]; simp [hz])) hpl v pre.length 0 c out (by omega) (by omega) (by omega) (by omega) ?_
    rw [List.drop_zero]
    have hlen : ((pre.length + 1 : Nat) : Int) = ((pre ++ [i]).length : Int) := by simp
    rw [hlen]
    refine ih (pre ++ [i]) _ _ (by rw [he]; simp) (by omega) (by rw [List.length_append]; omega) ?_
    simp only [colP, List.filter_append, List.map_append, List.countP_append] at hv
    rw [List.append_assoc, Nat.add_assoc]
    exact hv
/-- The order by the least x, equals by their places. -/
def ordV (l : List S100) : List Nat := (List.range l.length).mergeSort (Sweep.leI (slices_SortStableFunc_int_int.key l))
theorem ord_perm (l : List S100) : (ordV l).Perm (List.range l.length) := List.mergeSort_perm _ _
theorem impl_order (l : List S100) (hl : l.length ≤ 40) (v : List S90 × Int × Bool) (hv : Ev (fun k => impl_SweepPairs.l1 k l (cast (ordV l)) [] 0 (cast (ordV l)) ((cast (ordV l)).length : Int) 0) v) (d : Nat) : ∀ i : Nat, l.length - i = d → i ≤ l.length → Ev (fun k => impl_SweepPairs.l0 k l (cast (List.range i)) (l.length : Int) (i : Int)) v := by
  induction d with
  | zero =>
    intro i hd hi
    have e : i = l.length := by omega
    subst e
    refine ev_succ ?_
    have hf : slices_SortStableFunc_int_int.f (cast (List.range l.length)) l = some (cast (ordV l)) := if_pos ⟨rfl, hl⟩
    simp only [impl_SweepPairs.l0, if_neg (show ¬ (l.length : Int) < (l.length : Int) by omega), hf, Option.bind_some]
    exact hv
  | succ d ih =>
    intro i hd hi
    have hlt : i < l.length := by omega
    refine ev_succ ?_
    have e : cast (List.range i) ++ [(i : Int)] = cast (List.range (i + 1)) := by simp [cast, List.range_succ]
    simp only [impl_SweepPairs.l0, if_pos (show (i : Int) < (l.length : Int) by omega), cast_len, List.length_range, if_pos (show i < 17592186044416 by omega), e, succ_cast hlt (by omega)]
    exact ih (i + 1) (by omega) (by omega)
/-! #### the two agree -/
theorem le_iff (lf : Nat → Int) (i j : Nat) : Sweep.leI lf i j = true ↔ lf i < lf j ∨ lf i = lf j ∧ i ≤ j := by
  unfold Sweep.leI Stable.lx
  rw [Sweep.ltI, Sweep.ltI]
  simp only [Bool.not_eq_true', Bool.or_eq_false_iff, Bool.and_eq_false_imp, Bool.not_eq_eq_eq_not, Bool.not_true, decide_eq_false_iff_not]
  omega
theorem key_lo (l : List S100) {i : Nat} (h : i < l.length) : slices_SortStableFunc_int_int.key l i = loZ l i := by
  unfold slices_SortStableFunc_int_int.key loZ bo Sweep.b0 boundsV
  rw [show Sweep.cl l.length i = i from if_pos h]
  split <;> rfl
theorem ord_sorted (l : List S100) : (ordV l).Pairwise fun a b => (loZ l a < loZ l b ∨ loZ l a = loZ l b ∧ a ≤ b) ∧ a ≠ b ∧ a < l.length ∧ b < l.length := by
  have hm : ∀ z ∈ ordV l, z < l.length := fun z hz => by simpa using (ord_perm l).mem_iff.1 hz
  have h1 : (ordV l).Pairwise fun a b => Sweep.leI (slices_SortStableFunc_int_int.key l) a b = true := List.pairwise_mergeSort (fun a b c h1 h2 => by rw [le_iff] at *; omega) (fun a b => by
    rcases Classical.em (Sweep.leI (slices_SortStableFunc_int_int.key l) a b = true) with h | h
    · rw [h]; rfl
    · have h2 : Sweep.leI (slices_SortStableFunc_int_int.key l) b a = true := by rw [le_iff] at *; omega
      rw [h2, Bool.or_true]) _
  have h2 : (ordV l).Pairwise (· ≠ ·) := (ord_perm l).symm.pairwise_iff (R := (· ≠ ·)) (fun h => h.symm) |>.1 ((range_lt l.length).imp fun h => by omega)
  have h3 := h1.and h2
  refine List.Pairwise.imp_of_mem ?_ h3
  intro a b ha hb h
  obtain ⟨h4, h5⟩ := h
  rw [le_iff, key_lo l (hm a ha), key_lo l (hm b hb)] at h4
  exact ⟨h4, h5, hm a ha, hm b hb⟩
theorem toN_norm (x : Nat × Nat) : toN x = toS (normP x) := by
  obtain ⟨a, b⟩ := x
  unfold toN toS normP mn mx
  dsimp only
  by_cases h : a ≤ b
  · rw [if_pos h]
    rcases Nat.lt_or_ge a b with h2 | h2
    · rw [if_pos (by omega), if_neg (by omega)]
    · have : a = b := by omega
      subst this
      simp
  · rw [if_neg h, if_neg (by omega), if_pos (by omega)]
theorem gI_seen (l : List S100) (x : Nat × Nat) (hx : x ∈ colP [] (ordV l)) : gI l x = seenN l (normP x) := by
  obtain ⟨⟨h1, h2, h3, h4⟩, -⟩ := col_mem (R := fun a b => (loZ l a < loZ l b ∨ loZ l a = loZ l b ∧ a ≤ b) ∧ a ≠ b ∧ a < l.length ∧ b < l.length) (ordV l) [] (by simpa using ord_sorted l) x hx
  obtain ⟨a, b⟩ := x
  dsimp only at h1 h2 h3 h4
  unfold gI seenN normP
  dsimp only
  by_cases h : a ≤ b
  · simp only [if_pos h]
    by_cases hh : hiZ l a < loZ l b
    · rw [decide_eq_true hh, decide_eq_false (by omega)]; rfl
    · rw [decide_eq_false hh, decide_eq_true (by omega)]; rfl
  · simp only [if_neg h]
    by_cases hh : hiZ l a < loZ l b
    · rw [decide_eq_true hh, decide_eq_false (by omega)]; rfl
    · rw [decide_eq_false hh, decide_eq_true (by omega)]; rfl
theorem qI_tou (l : List S100) (hs : l.all sB = true) (x : Nat × Nat) (hx : x ∈ colP [] (ordV l)) : qI l x = touN l (normP x) := by
  have hg := gI_seen l x hx
  obtain ⟨⟨h1, h2, h3, h4⟩, -⟩ := col_mem (R := fun a b => (loZ l a < loZ l b ∨ loZ l a = loZ l b ∧ a ≤ b) ∧ a ≠ b ∧ a < l.length ∧ b < l.length) (ordV l) [] (by simpa using ord_sorted l) x hx
  obtain ⟨a, b⟩ := x
  dsimp only at h1 h2 h3 h4
  have ga := good_at hs h3
  have gb := good_at hs h4
  have e : touN l (normP (a, b)) = tB (l.getD b z100) (l.getD a z100) := by
    unfold touN normP
    dsimp only
    by_cases h : a ≤ b
    · simp only [if_pos h]; exact tB_comm ga gb
    · simp only [if_neg h]
  rw [e]
  unfold qI
  dsimp only
  cases ht : tB (l.getD b z100) (l.getD a z100) with
  | false => rw [Bool.and_false]
  | true =>
    rw [Bool.and_true]
    have ho := tB_over gb ga ht
    unfold gI
    dsimp only
    have : ¬ hiZ l a < loZ l b := by unfold hiZ loZ; omega
    rw [decide_eq_false this]; rfl
theorem leP_iff (p q : Int × Int) : SortedP.leP p q = true ↔ p.1 < q.1 ∨ p.1 = q.1 ∧ p.2 ≤ q.2 := by
  unfold SortedP.leP
  rw [Bool.not_eq_true', SortedP.lt_not]
  omega
theorem pairs_sorted (l : List S100) (hl : l.length ≤ 40) (hs : l.all sB = true) : impl_Pair.f (((colP [] (ordV l)).filter (qI l)).map toN) = some (((prs (List.range l.length)).filter (touN l)).map toS) := by
  have hp := col_perm (ord_perm l) (touN l) (qI l) (qI_tou l hs)
  have hp2 : ((((colP [] (ordV l)).filter (qI l)).map toN).map fun x => (x.f0, x.f1)).Perm (((prs (List.range l.length)).filter (touN l)).map fun x => ((x.1 : Int), (x.2 : Int))) := by
    have e : (((colP [] (ordV l)).filter (qI l)).map toN).map (fun x => (x.f0, x.f1)) = (((colP [] (ordV l)).filter (qI l)).map normP).map (fun x => ((x.1 : Int), (x.2 : Int))) := by
      rw [List.map_map, List.map_map]
      refine List.map_congr_left fun x _ => ?_
      simp only [Function.comp, toN_norm]
      rfl
    rw [e]
    exact hp.map _
  have hle : (((colP [] (ordV l)).filter (qI l)).map toN).length ≤ 4096 := by
    have h1 := hp.length_eq
    rw [List.length_map] at h1
    rw [List.length_map, h1]
    refine Nat.le_trans (List.length_filter_le _ _) ?_
    have hlen : ∀ (r : List Nat), (prs r).length ≤ r.length * r.length := fun r => by
      induction r with
      | nil => simp [prs]
      | cons x t ih =>
        simp only [prs, List.length_append, List.length_map, List.length_cons]
        have : (t.length + 1) * (t.length + 1) = t.length * t.length + 2 * t.length + 1 := by rw [Nat.add_mul, Nat.mul_add]; omega
        omega
    have h2 := hlen (List.range l.length)
    rw [List.length_range] at h2
    have h3 : l.length * l.length ≤ 40 * 40 := Nat.mul_le_mul hl hl
    omega
  unfold impl_Pair.f
  rw [if_pos hle]
  congr 1
  have hsort : (((colP [] (ordV l)).filter (qI l)).map toN |>.map fun x => (x.f0, x.f1)).mergeSort SortedP.leP = ((prs (List.range l.length)).filter (touN l)).map fun x => ((x.1 : Int), (x.2 : Int)) := by
    refine List.Perm.eq_of_pairwise (le := fun a b => SortedP.leP a b = true) ?_ (List.pairwise_mergeSort (fun a b c h1 h2 => by rw [leP_iff] at *; omega) (fun a b => by
      rcases Classical.em (SortedP.leP a b = true) with h | h
      · rw [h]; rfl
      · have h2 : SortedP.leP b a = true := by rw [leP_iff] at *; omega
        rw [h2, Bool.or_true]) _) ?_ ((List.mergeSort_perm _ _).trans hp2)
    · intro a b _ _ h1 h2
      rw [leP_iff] at h1 h2
      exact Prod.ext (by omega) (by omega)
    · refine List.pairwise_map.2 ?_
      refine ((prs_sorted _ (range_lt l.length)).filter _).imp ?_
      intro a b h
      rw [leP_iff]
      dsimp only
      omega
  rw [hsort, List.map_map]
  rfl
theorem impl_sweep (l : List S100) : Ev (fun k => impl_SweepPairs.f k l) (sweepV l) := by
  unfold impl_SweepPairs.f sweepV
  rw [impl_shapes]
  simp only [Option.bind_some]
  cases h : shapesB l with
  | false => simp only [Bool.false_eq_true, if_false]; exact Ev.now _
  | true =>
    simp only [if_true]
    unfold shapesB at h
    obtain ⟨h1, h2⟩ := Bool.and_eq_true_iff.1 h
    have hl : l.length ≤ 40 := by have := of_decide_eq_true h1; omega
    have hol : (ordV l).length = l.length := by rw [(ord_perm l).length_eq, List.length_range]
    have hm : ∀ z ∈ ordV l, z < l.length := fun z hz => by simpa using (ord_perm l).mem_iff.1 hz
    refine impl_order l hl _ ?_ l.length 0 (by omega) (by omega)
    rw [cast_len, hol]
    refine impl_out_loop l hl h2 (ordV l) hol hm _ (ordV l) [] 0 [] rfl (by omega) (by simp only [List.length_nil]; omega) ?_
    rw [List.nil_append, pairs_sorted l hl h2, Nat.zero_add, col_range (ord_perm l) (seenN l) (gI l) (gI_seen l)]
    exact Ev.now _
theorem sweepV_le (l : List S100) : (sweepV l).1.length ≤ 2000 := by
  unfold sweepV
  split
  · rename_i h
    have hl : l.length ≤ 40 := by
      unfold shapesB at h
      have := of_decide_eq_true (Bool.and_eq_true_iff.1 h).1; omega
    have := outerP_le l hl l.length 0 []
    rw [outerP_eq l l.length 0 [] (by omega) (by omega), ← List.range_eq_range', List.nil_append, List.length_nil] at this
    show (((prs (List.range l.length)).filter (touN l)).map toS).length ≤ 2000
    omega
  · exact Nat.zero_le _
theorem FnExactSweepPairs : laws_FnExactSweepPairs_Pure := by
  intro l hl
  have h1 : l.length ≤ 7036874417766 := by omega
  apply Ev.rounds (r := true)
  unfold laws_FnExactSweepPairs.f laws_szShapeS.f
  by_cases h : wrap64 (1048576 - (l.length : Int)) < 0
  · simp only [if_pos h, Option.bind_some, show (-1 : Int) < 0 from by decide, if_true]
    exact Ev.now true
  · simp only [if_neg h, Option.bind_some]
    have hk := to_shapes l h1
    have h2 : (l.map shapeOf).length ≤ 17592186044416 := by rw [List.length_map]; omega
    generalize l.map shapeOf = s at *
    have hp := sweepV_le s
    have hsp := spec_sweep s
    have him := impl_sweep s
    generalize sweepV s = pv at *
    obtain ⟨v, n, b⟩ := pv
    have hp : v.length ≤ 2000 := hp
    have hev := eq_pairs v (by omega)
    obtain ⟨zs, hms⟩ := mark_shapes s h2
    obtain ⟨ys, hmk, hmp⟩ := mark_pairs v (by omega)
    have hh := held_pairs ys v.length hmk (by omega)
    refine Ev.bind hk (Ev.bind hsp (Ev.bind hk (Ev.bind him (Ev.bind hev ?_))))
    simp only [if_true, bne_self_eq_false]
    refine ev_succ ?_
    simp only [laws_FnExactSweepPairs.j0, Bool.false_eq_true, if_false]
    refine Ev.bind hk (Ev.bind (eq_shapes s h2) ?_)
    simp only [if_true]
    refine Ev.bind hms ?_
    simp only [if_neg (show ¬ (1 + 5 * (s.length : Int) < 0) by omega)]
    refine Ev.bind hev ?_
    simp only [if_true, bne_self_eq_false]
    refine ev_succ ?_
    simp only [laws_FnExactSweepPairs.j1, Bool.false_eq_true, if_false]
    refine Ev.bind hmp (Ev.bind hh ?_)
    simp only [if_neg (show ¬ (1 + 2 * (v.length : Int) < 0) by omega), if_true]
    refine Ev.bind hk (Ev.bind him (Ev.bind hev ?_))
    simp only [if_true, bne_self_eq_false]
    refine ev_succ ?_
    simp only [laws_FnExactSweepPairs.j2, Bool.false_eq_true, if_false]
    refine Ev.bind hh ?_
    simp only [if_neg (show ¬ (1 + 2 * (v.length : Int) < 0) by omega), if_true]
    exact Ev.now true
end Go.Proofs.Ytiaajmnmbjheoaa.Pure
