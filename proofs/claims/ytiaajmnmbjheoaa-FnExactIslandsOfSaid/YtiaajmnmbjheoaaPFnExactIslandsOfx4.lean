/- The machine's side of a law, function by function: a Lean function with the Go function's answers and the proof that the Go code comes to them. No condition. Written by this session's program over the kit's print, this session's own contracts set in. -/
import Derived.Test.YtiaajmnmbjheoaaPFnExactIslandsOfx0
import Derived.Test.YtiaajmnmbjheoaaPFnExactIslandsOfx3
namespace Go.Proofs.Ytiaajmnmbjheoaa.PFnExactIslandsOf
open Go.RowKit Go.Proofs.YtiaajmnmbjheoaaW.PrintWords Go.Proofs.YtiaajmnmbjheoaaW.PrintLast Go.Proofs.YtiaajmnmbjheoaaW.PrintMore
attribute [local go_sem] max2_int min2_int max_two min_two max_three min_three max_four min_four   -- for this text's walks alone
set_option linter.unusedVariables false
set_option linter.unusedSimpArgs false

/-! ### impl_IslandsOf: function 19 -/
mutual
def impl_IslandsOf.j0 : Nat → List (S90) → Bool → Int → Option ((List (List Int)) × Bool)
  | 0, _, _, _ => none
  | k + 1, x1, x29, x135000 => if x29 = true then (some (([] : List (List Int)), false)) else (impl_IslandsOf.l0 k x1 (([] : List Int)) x135000 0)
def impl_IslandsOf.l0 : Nat → List (S90) → List Int → Int → Int → Option ((List (List Int)) × Bool)
  | 0, _, _, _, _ => none
  | k + 1, x1, x6, x31, x32 => if x32 < x31 then (if x6.length < 17592186044416 then (impl_IslandsOf.l0 k x1 (x6 ++ [x32]) x31 (wrap64 (x32 + 1))) else (none)) else (impl_IslandsOf.l1 k x6 x1 (x1.length : Int) 0)
def impl_IslandsOf.l1 : Nat → List Int → List (S90) → Int → Int → Option ((List (List Int)) × Bool)
  | 0, _, _, _, _ => none
  | k + 1, x6, x40, x41, x42 => if x42 < x41 then (if 0 ≤ x42 then (if x42 < (x40.length : Int) then (if 0 ≤ ((rd_T90 x40 x42).f0) then (if ((rd_T90 x40 x42).f0) < (x6.length : Int) then (if 0 ≤ ((rd_T90 x40 x42).f1) then (if ((rd_T90 x40 x42).f1) < (x6.length : Int) then (impl_IslandsOf.l2 k x6 (mn (rd x6 ((rd_T90 x40 x42).f0)) (rd x6 ((rd_T90 x40 x42).f1))) (mx (rd x6 ((rd_T90 x40 x42).f0)) (rd x6 ((rd_T90 x40 x42).f1))) x40 x41 x42 (x6.length : Int) 0) else (none)) else (none)) else (none)) else (none)) else (none)) else (none)) else (if 0 ≤ (x6.length : Int) then (if ((x6.length : Int) : Int).toNat ≤ 35184372088832 then (impl_IslandsOf.l3 k (([] : List (List Int))) (List.replicate ((x6.length : Int) : Int).toNat 0) x6 (x6.length : Int) 0) else (none)) else (none))
def impl_IslandsOf.l2 : Nat → List Int → Int → Int → List (S90) → Int → Int → Int → Int → Option ((List (List Int)) × Bool)
  | 0, _, _, _, _, _, _, _, _ => none
  | k + 1, x6, x10, x11, x40, x41, x42, x69, x70 => if x70 < x69 then (if 0 ≤ x70 then (if x70 < (x6.length : Int) then (if (rd x6 x70) = x11 then (impl_IslandsOf.l2 k (x6.set (x70 : Int).toNat x10) x10 x11 x40 x41 x42 x69 (wrap64 (x70 + 1))) else (impl_IslandsOf.l2 k x6 x10 x11 x40 x41 x42 x69 (wrap64 (x70 + 1)))) else (none)) else (none)) else (impl_IslandsOf.l1 k x6 x40 x41 (wrap64 (x42 + 1)))
def impl_IslandsOf.l3 : Nat → List (List Int) → List Int → List Int → Int → Int → Option ((List (List Int)) × Bool)
  | 0, _, _, _, _, _ => none
  | k + 1, x13, x14, x87, x88, x89 => if x89 < x88 then (if 0 ≤ x89 then (if x89 < (x87.length : Int) then (if (rd x87 x89) = x89 then (if x89 < (x14.length : Int) then ((some (x14.set (x89 : Int).toNat (x13.length : Int) : List Int)).bind fun y158 => (if x13.length < 5864062014805 then ((some (x13 ++ [[]] : List (List Int))).bind fun y159 => (if 0 ≤ (rd x87 x89) then (if (rd x87 x89) < (x14.length : Int) then (if 0 ≤ (rd y158 (rd x87 x89)) then (if (rd y158 (rd x87 x89)) < (y159.length : Int) then (if (rd_L3 y159 (rd y158 (rd x87 x89))).length < 17592186044416 then (impl_IslandsOf.l3 k (y159.set ((rd y158 (rd x87 x89)) : Int).toNat ((rd_L3 y159 (rd y158 (rd x87 x89))) ++ [x89])) y158 x87 x88 (wrap64 (x89 + 1))) else (none)) else (none)) else (none)) else (none)) else (none))) else (none))) else (none)) else (if 0 ≤ (rd x87 x89) then (if (rd x87 x89) < (x14.length : Int) then (if 0 ≤ (rd x14 (rd x87 x89)) then (if (rd x14 (rd x87 x89)) < (x13.length : Int) then (if (rd_L3 x13 (rd x14 (rd x87 x89))).length < 17592186044416 then (impl_IslandsOf.l3 k (x13.set ((rd x14 (rd x87 x89)) : Int).toNat ((rd_L3 x13 (rd x14 (rd x87 x89))) ++ [x89])) x14 x87 x88 (wrap64 (x89 + 1))) else (none)) else (none)) else (none)) else (none)) else (none))) else (none)) else (none)) else (some (x13, true))
end
def impl_IslandsOf.f (k : Nat) (a0 : Int) (l1 : List (S90)) : Option ((List (List Int)) × Bool) := (impl_inRange.f a0 0 40).bind fun t135 => (if t135 = true then (if (l1.length : Int) > 200 then (impl_IslandsOf.j0 k l1 true a0) else ((impl_Pair_58.f l1 a0).bind fun t136 => (impl_IslandsOf.j0 k l1 t136 a0))) else (impl_IslandsOf.j0 k l1 true a0))
theorem impl_IslandsOf.mono_l : ∀ k, (∀ y0 y1 y2, LeO (impl_IslandsOf.j0 k y0 y1 y2) (impl_IslandsOf.j0 (k + 1) y0 y1 y2)) ∧ (∀ y0 y1 y2 y3, LeO (impl_IslandsOf.l0 k y0 y1 y2 y3) (impl_IslandsOf.l0 (k + 1) y0 y1 y2 y3)) ∧ (∀ y0 y1 y2 y3, LeO (impl_IslandsOf.l1 k y0 y1 y2 y3) (impl_IslandsOf.l1 (k + 1) y0 y1 y2 y3)) ∧ (∀ y0 y1 y2 y3 y4 y5 y6 y7, LeO (impl_IslandsOf.l2 k y0 y1 y2 y3 y4 y5 y6 y7) (impl_IslandsOf.l2 (k + 1) y0 y1 y2 y3 y4 y5 y6 y7)) ∧ (∀ y0 y1 y2 y3 y4, LeO (impl_IslandsOf.l3 k y0 y1 y2 y3 y4) (impl_IslandsOf.l3 (k + 1) y0 y1 y2 y3 y4))
  | 0 => ⟨fun _ _ _ r h => by simp [impl_IslandsOf.j0] at h, fun _ _ _ _ r h => by simp [impl_IslandsOf.l0] at h, fun _ _ _ _ r h => by simp [impl_IslandsOf.l1] at h, fun _ _ _ _ _ _ _ _ r h => by simp [impl_IslandsOf.l2] at h, fun _ _ _ _ _ r h => by simp [impl_IslandsOf.l3] at h⟩
  | k + 1 => by
    obtain ⟨ih0, ih1, ih2, ih3, ih4⟩ := impl_IslandsOf.mono_l k
    refine ⟨?_, ?_, ?_, ?_, ?_⟩
    · intro y0 y1 y2
      unfold impl_IslandsOf.j0
      repeat' first
      | (with_reducible exact ih0 _ _ _)
      | (with_reducible exact ih1 _ _ _ _)
      | (with_reducible exact ih2 _ _ _ _)
      | (with_reducible exact ih3 _ _ _ _ _ _ _ _)
      | (with_reducible exact ih4 _ _ _ _ _)
      | (with_reducible exact LeO.refl _)
      | (with_reducible exact LeO.none _)
      | (with_reducible refine LeO.ite ?_ ?_)
      | (with_reducible refine LeO.bind ?_ (fun _ => ?_))
      | exact ih0 _ _ _
      | exact ih1 _ _ _ _
      | exact ih2 _ _ _ _
      | exact ih3 _ _ _ _ _ _ _ _
      | exact ih4 _ _ _ _ _
      | exact LeO.none _
      | refine LeO.ite ?_ ?_
      | refine LeO.bind ?_ (fun _ => ?_)
    · intro y0 y1 y2 y3
      unfold impl_IslandsOf.l0
      repeat' first
      | (with_reducible exact ih0 _ _ _)
      | (with_reducible exact ih1 _ _ _ _)
      | (with_reducible exact ih2 _ _ _ _)
      | (with_reducible exact ih3 _ _ _ _ _ _ _ _)
      | (with_reducible exact ih4 _ _ _ _ _)
      | (with_reducible exact LeO.refl _)
      | (with_reducible exact LeO.none _)
      | (with_reducible refine LeO.ite ?_ ?_)
      | (with_reducible refine LeO.bind ?_ (fun _ => ?_))
      | exact ih0 _ _ _
      | exact ih1 _ _ _ _
      | exact ih2 _ _ _ _
      | exact ih3 _ _ _ _ _ _ _ _
      | exact ih4 _ _ _ _ _
      | exact LeO.none _
      | refine LeO.ite ?_ ?_
      | refine LeO.bind ?_ (fun _ => ?_)
    · intro y0 y1 y2 y3
      unfold impl_IslandsOf.l1
      repeat' first
      | (with_reducible exact ih0 _ _ _)
      | (with_reducible exact ih1 _ _ _ _)
      | (with_reducible exact ih2 _ _ _ _)
      | (with_reducible exact ih3 _ _ _ _ _ _ _ _)
      | (with_reducible exact ih4 _ _ _ _ _)
      | (with_reducible exact LeO.refl _)
      | (with_reducible exact LeO.none _)
      | (with_reducible refine LeO.ite ?_ ?_)
      | (with_reducible refine LeO.bind ?_ (fun _ => ?_))
      | exact ih0 _ _ _
      | exact ih1 _ _ _ _
      | exact ih2 _ _ _ _
      | exact ih3 _ _ _ _ _ _ _ _
      | exact ih4 _ _ _ _ _
      | exact LeO.none _
      | refine LeO.ite ?_ ?_
      | refine LeO.bind ?_ (fun _ => ?_)
    · intro y0 y1 y2 y3 y4 y5 y6 y7
      unfold impl_IslandsOf.l2
      repeat' first
      | (with_reducible exact ih0 _ _ _)
      | (with_reducible exact ih1 _ _ _ _)
      | (with_reducible exact ih2 _ _ _ _)
      | (with_reducible exact ih3 _ _ _ _ _ _ _ _)
      | (with_reducible exact ih4 _ _ _ _ _)
      | (with_reducible exact LeO.refl _)
      | (with_reducible exact LeO.none _)
      | (with_reducible refine LeO.ite ?_ ?_)
      | (with_reducible refine LeO.bind ?_ (fun _ => ?_))
      | exact ih0 _ _ _
      | exact ih1 _ _ _ _
      | exact ih2 _ _ _ _
      | exact ih3 _ _ _ _ _ _ _ _
      | exact ih4 _ _ _ _ _
      | exact LeO.none _
      | refine LeO.ite ?_ ?_
      | refine LeO.bind ?_ (fun _ => ?_)
    · intro y0 y1 y2 y3 y4
      unfold impl_IslandsOf.l3
      repeat' first
      | (with_reducible exact ih0 _ _ _)
      | (with_reducible exact ih1 _ _ _ _)
      | (with_reducible exact ih2 _ _ _ _)
      | (with_reducible exact ih3 _ _ _ _ _ _ _ _)
      | (with_reducible exact ih4 _ _ _ _ _)
      | (with_reducible exact LeO.refl _)
      | (with_reducible exact LeO.none _)
      | (with_reducible refine LeO.ite ?_ ?_)
      | (with_reducible refine LeO.bind ?_ (fun _ => ?_))
      | exact ih0 _ _ _
      | exact ih1 _ _ _ _
      | exact ih2 _ _ _ _
      | exact ih3 _ _ _ _ _ _ _ _
      | exact ih4 _ _ _ _ _
      | exact LeO.none _
      | refine LeO.ite ?_ ?_
      | refine LeO.bind ?_ (fun _ => ?_)
theorem impl_IslandsOf.mono : ∀ a0 a1 k, LeO (impl_IslandsOf.f k a0 a1) (impl_IslandsOf.f (k + 1) a0 a1) := by
  intro a0 a1 k
  obtain ⟨ih0, ih1, ih2, ih3, ih4⟩ := impl_IslandsOf.mono_l k
  unfold impl_IslandsOf.f
  repeat' first
      | (with_reducible exact ih0 _ _ _)
      | (with_reducible exact ih1 _ _ _ _)
      | (with_reducible exact ih2 _ _ _ _)
      | (with_reducible exact ih3 _ _ _ _ _ _ _ _)
      | (with_reducible exact ih4 _ _ _ _ _)
      | (with_reducible exact LeO.refl _)
      | (with_reducible exact LeO.none _)
      | (with_reducible refine LeO.ite ?_ ?_)
      | (with_reducible refine LeO.bind ?_ (fun _ => ?_))
      | exact ih0 _ _ _
      | exact ih1 _ _ _ _
      | exact ih2 _ _ _ _
      | exact ih3 _ _ _ _ _ _ _ _
      | exact ih4 _ _ _ _ _
      | exact LeO.none _
      | refine LeO.ite ?_ ?_
      | refine LeO.bind ?_ (fun _ => ?_)
def impl_IslandsOf.T12 : Bool × List (List Nat × List Nat) := (true, [([], []), ([], []), ([1], [1]), ([0, 2], [0, 2]), ([3], [3]), ([], []), ([], []), ([6], [6]), ([5, 7], [5, 7]), ([8], [8]), ([4, 9], [4, 9]), ([], []), ([], []), ([12], [12]), ([11, 13], [11, 13]), ([14], [14]), ([], []), ([], []), ([17], [17]), ([16, 18], [16, 18]), ([19], [19]), ([15, 20], [15, 20]), ([10, 0, 1, 2, 3, 4, 5, 6, 7, 8, 9, 10], [10]), ([21, 22, 0, 1, 2, 3, 4, 5, 6, 7, 8, 9, 10, 11, 12, 13, 14, 15, 16, 17, 18, 19, 20, 21, 22], [21])])
def impl_IslandsOf.B12 : List Nat := [0, 0, 2, 7, 15, 0, 0, 64, 224, 480, 1023, 0, 0, 4096, 14336, 30720, 0, 0, 131072, 458752, 983040, 2095104, 2047, 8388607]
theorem impl_IslandsOf.tab12 : rtab .any (opsOf Try.f19 12) = impl_IslandsOf.T12 := by kernel_rfl
theorem impl_IslandsOf.bits12 : waitsOk impl_IslandsOf.T12.2 impl_IslandsOf.B12 = true := by kernel_rfl
def impl_IslandsOf.T27 : Bool × List (List Nat × List Nat) := (true, [([], []), ([], []), ([], []), ([1, 2], [1, 2]), ([], []), ([], []), ([], []), ([5, 6], [5, 6]), ([4, 7], [4, 7]), ([8], [8]), ([], []), ([10], [10]), ([9, 11], [9, 11]), ([0, 3, 0, 1, 2, 3, 4, 5, 6, 7, 8, 9, 10, 11, 12], [0, 3]), ([13, 12, 12, 0, 1, 2, 3, 4, 5, 6, 7, 8, 9, 10, 11, 12], [12, 13])])
def impl_IslandsOf.B27 : List Nat := [0, 0, 0, 6, 0, 0, 0, 96, 240, 496, 0, 1024, 4080, 8191, 16383]
theorem impl_IslandsOf.tab27 : rtab .any (opsOf Try.f19 27) = impl_IslandsOf.T27 := by kernel_rfl
theorem impl_IslandsOf.bits27 : waitsOk impl_IslandsOf.T27.2 impl_IslandsOf.B27 = true := by kernel_rfl
/-! #### the map from a root to its place: told as a list of as many numbers as there are shapes, nought where there is no entry -/
def impl_IslandsOf.valAt : List MapEntry → Int → Int
  | [], _ => 0
  | e :: es, f => match e.key, e.val with
    | .int .i64 r, .int .i64 v => if f = r then v else impl_IslandsOf.valAt es f
    | _, _ => 0
def impl_IslandsOf.keysOk (ents : List MapEntry) (b : Int) : Prop := ∀ e ∈ ents, ∃ r v : Int, e.key = .int .i64 r ∧ e.val = .int .i64 v ∧ r < b
theorem impl_IslandsOf.find (f b : Int) : ∀ (ents : List MapEntry) (i : Nat), impl_IslandsOf.keysOk ents b → (∃ j, Instr.findNow (.int .i64) (.int .i64 f) ents i = some (some (j, .int .i64 (impl_IslandsOf.valAt ents f)))) ∨ (Instr.findNow (.int .i64) (.int .i64 f) ents i = some none ∧ impl_IslandsOf.valAt ents f = 0)
  | [], i, _ => .inr ⟨rfl, rfl⟩
  | e :: es, i, h => by
    obtain ⟨r, v, hk, hv, _⟩ := h e (List.mem_cons_self ..)
    have ih := impl_IslandsOf.find f b es (i + 1) (fun x hx => h x (List.mem_cons_of_mem _ hx))
    by_cases c : f = r
    · refine .inl ⟨i, ?_⟩
      simp [Instr.findNow, Instr.sameNow, hk, hv, impl_IslandsOf.valAt, c]
    · have c2 : (f == r) = false := beq_eq_false_iff_ne.2 c
      simp only [Instr.findNow, Instr.sameNow, hk, hv, impl_IslandsOf.valAt, c2, if_neg c, if_true]
      exact ih
theorem impl_IslandsOf.fresh (f : Int) : ∀ (ents : List MapEntry) (i : Nat), impl_IslandsOf.keysOk ents f → Instr.findNow (.int .i64) (.int .i64 f) ents i = some none
  | [], i, _ => rfl
  | e :: es, i, h => by
    obtain ⟨r, v, hk, hv, hr⟩ := h e (List.mem_cons_self ..)
    have ih := impl_IslandsOf.fresh f es (i + 1) (fun x hx => h x (List.mem_cons_of_mem _ hx))
    have c2 : (f == r) = false := beq_eq_false_iff_ne.2 (by omega)
    simp only [Instr.findNow, Instr.sameNow, hk, c2, if_true]
    exact ih
theorem impl_IslandsOf.valAt_push (r v f b : Int) : ∀ (ents : List MapEntry), impl_IslandsOf.keysOk ents b → r = b → ∀ c : Nat, impl_IslandsOf.valAt (ents ++ [{ key := .int .i64 r, val := .int .i64 v, born := c }]) f = if f = r then v else impl_IslandsOf.valAt ents f
  | [], _, _, c => by simp [impl_IslandsOf.valAt]
  | e :: es, h, hb, c => by
    obtain ⟨r1, v1, hk, hv, hr⟩ := h e (List.mem_cons_self ..)
    have ih := impl_IslandsOf.valAt_push r v f b es (fun x hx => h x (List.mem_cons_of_mem _ hx)) hb c
    simp only [List.cons_append, impl_IslandsOf.valAt, hk, hv]
    by_cases c1 : f = r1
    · have c2 : ¬ f = r := by omega
      rw [if_pos c1, if_neg c2, if_pos c1]
    · rw [if_neg c1, ih]
      by_cases c2 : f = r
      · rw [if_pos c2, if_pos c2]
      · rw [if_neg c2, if_neg c2, if_neg c1]
/-- The map in block g tells the numbers xs; its keys are below b. -/
structure impl_IslandsOf.MapR (w : World) (base g : Nat) (xs : List Int) (b : Int) : Prop where
  far : base ≤ g
  tells : ∃ (ents : Array MapEntry) (clock : Nat), w.heap[g]? = some (.map ents clock) ∧ impl_IslandsOf.keysOk ents.toList b ∧ ∀ f : Int, 0 ≤ f → f < (xs.length : Int) → impl_IslandsOf.valAt ents.toList f = rd xs f
theorem impl_IslandsOf.MapR.move {w w' : World} {base g : Nat} {xs : List Int} {b : Int} (h : impl_IslandsOf.MapR w base g xs b) (he : w'.heap[g]? = w.heap[g]?) : impl_IslandsOf.MapR w' base g xs b := by
  obtain ⟨h1, ents, clock, hh, h2⟩ := h
  exact ⟨h1, ents, clock, by rw [he]; exact hh, h2⟩
theorem impl_IslandsOf.MapR.drew {w : World} {base g : Nat} {xs : List Int} {b : Int} (h : impl_IslandsOf.MapR w base g xs b) : impl_IslandsOf.MapR w.drew base g xs b := h.move rfl
theorem impl_IslandsOf.MapR.lt {w : World} {base g : Nat} {xs : List Int} {b : Int} (h : impl_IslandsOf.MapR w base g xs b) : g < w.heap.size := by
  obtain ⟨_, ents, clock, hh, _⟩ := h
  exact (Array.getElem?_eq_some_iff.1 hh).1
theorem impl_IslandsOf.MapR.grown {w w' : World} {base g : Nat} {xs : List Int} {b : Int} {row : Option Nat} (h : impl_IslandsOf.MapR w base g xs b) (hg : w.grownBy w' row) (hne : some g ≠ row) : impl_IslandsOf.MapR w' base g xs b := h.move (hg.block g h.lt hne)
theorem impl_IslandsOf.MapR.ne {w : World} {base g g' : Nat} {xs : List Int} {b : Int} {cs : Array Value} {e : TypeId} {fl : Nat × Nat} (h : impl_IslandsOf.MapR w base g xs b) (hh : w.heap[g']? = some (.cells cs e fl)) : g ≠ g' := by
  rintro rfl
  obtain ⟨_, ents, clock, h1, _⟩ := h
  rw [hh] at h1
  cases h1
/-- A look into the map. -/
theorem impl_IslandsOf.MapR.look {w : World} {base g : Nat} {xs : List Int} {b f : Int} (h : impl_IslandsOf.MapR w base g xs b) (h0 : 0 ≤ f) (h1 : f < (xs.length : Int)) :
    (Instr.lookup 95 (.map (some g)) (.int .i64 f) false).run Try.prog w = .ok (.int .i64 (rd xs f)) w := by
  obtain ⟨_, ents, clock, hh, hk, hv⟩ := h
  have e := hv f h0 h1
  have hz : (zeroValue 3).run Try.prog w = .ok (.int .i64 0) w := by kernel_rfl
  have hc : (Instr.checkKey ents.isEmpty 10000 3 (.int .i64 f)).run Try.prog w = .ok () w := MapKept.run_checkKey Try.underlying3 (show MapKept.IsKey (.int .i64) (.int .i64 _) from rfl) _ 9999
  rcases impl_IslandsOf.find f b ents.toList 0 hk with ⟨j, hj⟩ | ⟨hj, h0v⟩
  · have hf := MapKept.run_findKey (P := Try.prog) (w := w) (kt := 3) Try.underlying3 hj
    simp [Instr.lookup, run_underlying Try.underlying95, MapKept.run_getObj_map hh, hc, hf, Result.andThen, e]
  · have hf := MapKept.run_findKey (P := Try.prog) (w := w) (kt := 3) Try.underlying3 hj
    rw [h0v] at e
    simp [Instr.lookup, run_underlying Try.underlying95, MapKept.run_getObj_map hh, hc, hf, hz, Result.andThen, ← e]
/-- A new entry. -/
theorem impl_IslandsOf.MapR.put {w : World} {base g : Nat} {xs : List Int} {b v : Int} (h : impl_IslandsOf.MapR w base g xs b) (h0 : 0 ≤ b) (h1 : b < (xs.length : Int)) :
    ∃ o : Obj, (Instr.mapUpdate 95 (.map (some g)) (.int .i64 b) (.int .i64 v)).run Try.prog w = .ok () { w with heap := w.heap.setIfInBounds g o } ∧ impl_IslandsOf.MapR { w with heap := w.heap.setIfInBounds g o } base g (xs.set b.toNat v) (b + 1) := by
  have hlt := h.lt
  obtain ⟨hf, ents, clock, hh, hk, hv⟩ := h
  have hc : (Instr.checkKey false 10000 3 (.int .i64 b)).run Try.prog w = .ok () w := MapKept.run_checkKey Try.underlying3 (show MapKept.IsKey (.int .i64) (.int .i64 _) from rfl) _ 9999
  have hf2 := MapKept.run_findKey (P := Try.prog) (w := w) (kt := 3) Try.underlying3 (impl_IslandsOf.fresh b ents.toList 0 hk)
  refine ⟨.map (ents.push { key := .int .i64 b, val := .int .i64 v, born := clock }) (clock + 1), ?_, hf, ents.push { key := .int .i64 b, val := .int .i64 v, born := clock }, clock + 1, ?_, ?_, ?_⟩
  · simp [Instr.mapUpdate, run_underlying Try.underlying95, MapKept.run_getObj_map hh, hc, hf2, MapKept.run_setObj_map _ hh, Result.andThen]
  · simp [hlt]
  · intro e he
    rw [Array.toList_push, List.mem_append, List.mem_singleton] at he
    rcases he with he | rfl
    · obtain ⟨r, v', a1, a2, a3⟩ := hk e he
      exact ⟨r, v', a1, a2, by omega⟩
    · exact ⟨b, v, rfl, rfl, by omega⟩
  · intro f f0 f1
    rw [List.length_set] at f1
    rw [Array.toList_push, impl_IslandsOf.valAt_push b v f b ents.toList hk rfl clock]
    by_cases c : f = b
    · subst c
      rw [if_pos rfl]
      simp [rd, show f.toNat < xs.length by omega]
    · rw [if_neg c, hv f f0 f1]
      have c2 : ¬ b.toNat = f.toNat := by omega
      simp [rd, List.getElem?_set, c2]
/-- A fresh map tells noughts. -/
theorem impl_IslandsOf.MapR.new {w : World} {base g n : Nat} (hg : base ≤ g) (hh : w.heap[g]? = some (.map #[] 0)) : impl_IslandsOf.MapR w base g (List.replicate n 0) 0 := by
  refine ⟨hg, #[], 0, hh, fun e he => absurd he (by simp), fun f f0 f1 => ?_⟩
  rw [List.length_replicate] at f1
  simp [impl_IslandsOf.valAt, rd, show f.toNat < n by omega]
theorem impl_IslandsOf.MapR.rlt {w : World} {base g : Nat} {xs : List Int} {b : Int} (h : impl_IslandsOf.MapR w base g xs b) : ∀ k, (Value.slice (some ⟨g, 0, none⟩) 0 0).ownBlock = some k → k < w.heap.size := fun k e => by
  injection e with e; subst e; exact h.lt
theorem impl_IslandsOf.MapR.below {w w' : World} {base g : Nat} {xs : List Int} {b : Int} (h : impl_IslandsOf.MapR w base g xs b) (hb : Below w.heap.size w w') : impl_IslandsOf.MapR w' base g xs b := h.move (hb.block g h.lt)
theorem impl_IslandsOf.MapR.alloc {w : World} {base g : Nat} {xs : List Int} {b : Int} (h : impl_IslandsOf.MapR w base g xs b) (o : Obj) : impl_IslandsOf.MapR (w.alloc o) base g xs b := h.below (below_alloc (Below.refl _ _) o)
theorem impl_IslandsOf.MapR.setc {w : World} {base g : Nat} {xs : List Int} {b : Int} {p : Addr} {cs : Array Value} {e : TypeId} {fl : Nat × Nat} (h : impl_IslandsOf.MapR w base g xs b) (hh : w.heap[p.block]? = some (.cells cs e fl)) (v : Value) : impl_IslandsOf.MapR (w.setCell p v) base g xs b := h.move (Below.heap_setCell w p v g (h.ne hh))
theorem impl_IslandsOf.MapR.next {w : World} {base g : Nat} {xs : List Int} {b c : Int} (h : impl_IslandsOf.MapR w base g xs c) (hc : c ≤ b + 1) (h0 : 0 ≤ b) (h1 : b < 9223372036854775807) : impl_IslandsOf.MapR w base g xs (wrap64 (b + 1)) := by
  obtain ⟨hf, ents, clock, hh, hk, hv⟩ := h
  refine ⟨hf, ents, clock, hh, fun e he => ?_, hv⟩
  obtain ⟨r, v, a1, a2, a3⟩ := hk e he
  exact ⟨r, v, a1, a2, by unfold wrap64; omega⟩
theorem impl_IslandsOf.putGrown (w : World) (g : Nat) (o : Obj) : w.grownBy { w with heap := w.heap.setIfInBounds g o } (some g) :=
  ⟨rfl, rfl, rfl, by simp, fun k _ hk => by
    have : ¬ g = k := fun e => hk (by rw [e])
    simp [Array.getElem?_setIfInBounds, this]⟩
theorem impl_IslandsOf.mkMap (w : World) : (Instr.makeMap 95 none).run Try.prog w = .ok (.map (some w.heap.size)) (w.alloc (.map #[] 0)) := by
  simp [Instr.makeMap, Result.andThen]
set_option maxHeartbeats 8000000 in
set_option maxRecDepth 100000 in
theorem impl_IslandsOf.calls (k : Nat) (a0 : Int) (A1 : Option Addr) (c1 : Nat) (l1 : List (S90)) (r1 : List (List Int)) (r2 : Bool) (w : World) (hr1 : Kd.C k90 w A1 l1.length l1) (hc1 : l1.length ≤ c1) (h : impl_IslandsOf.f k a0 l1 = some (r1, r2)) :
    Calls Try.prog 19 #[.int .i64 a0, .slice A1 l1.length c1] w fun e w' => ∃ v0_ : Value, e = .returned (.tuple #[v0_, .bool r2]) ∧ Kd.S (Kd.slice 3 (Kd.int .i64)) 74 w' w.heap.size (fun _ => True) v0_ r1 ∧ Below w.heap.size w w' := by
  have hu90 := Try.underlying90
  have HR1 := Aside0.mk hr1
  have HC1 := Aside0.mk hc1
  clear hr1 hc1
  have HB := Aside0.mk (Below.refl w.heap.size w)
  have H : ((impl_inRange.f a0 0 40).bind fun t135 => (if t135 = true then (if (l1.length : Int) > 200 then (impl_IslandsOf.j0 k l1 true a0) else ((impl_Pair_58.f l1 a0).bind fun t136 => (impl_IslandsOf.j0 k l1 t136 a0))) else (impl_IslandsOf.j0 k l1 true a0))) = some (r1, r2) := h
  clear h
  have HC3 := Aside0.mk H
  clear H
  go_enter Try.func19, Try.ntmps19
  go_upto_region 1 with (first | ((with_reducible refine gate_dst (N := 2) rfl ?_); (try (refine gate_guard (by rfl) ?_; dsimp only)); refine box_event ?hg (N := 2) ?hd (cs := #[.int .i64 a0]) (t := 3) ?hr ?_; (case hd => rfl); (case hg => rfl); (case hr => first | (go_simp; done) | (go_simp; rfl)); intro gb134 hg w4 hbox hb; have n0_ := Aside0.mk (below_step (by repeat (first | (with_reducible first | exact HB.out | apply below_alloc | apply pw_below_drewN | apply below_drew1) | exact HB.out)) hb); have n1_ := Aside0.mk (hbox); have n2_ := Aside0.mk ((by rw [hg]; exact (below_size (by repeat (first | (with_reducible first | exact HB.out | apply below_alloc | apply pw_below_drewN | apply below_drew1) | exact HB.out))) : w.heap.size ≤ gb134)); have n3_ := Aside0.mk ((by rw [hg]; exact (below_size (by repeat (first | (with_reducible first | exact HB.out | apply below_alloc | apply pw_below_drewN | apply below_drew1) | exact HB.out))) : w.heap.size ≤ gb134)); clear HB; have HB := n0_; have BK134 := n1_; have GW134 := n2_; have GE134 := n3_; clear n0_ n1_ n2_ n3_; clear hb hbox hg))
  (try simp only [Act.put, List.setIfInBounds_toArray, List.set_cons_zero, List.set_cons_succ])
  go_cut [29] (fun v29 wc => ∃ (kq : Nat) (x29_2 : Bool), v29 = .bool x29_2 ∧ Aside0 (impl_IslandsOf.j0 kq l1 x29_2 a0 = some (r1, r2)) ∧ Aside0 (kq ≤ k) ∧ Aside0 (wc.heap[gb134]? = some (.cells #[.int .i64 a0] 3 (0, 0))) ∧ Aside0 (Below w.heap.size w wc))
  case first =>
    have H := HC3.out
    clear HC3
    replace H := Option.bind_eq_some_iff.mp H
    obtain ⟨t135, A50, H⟩ := H
    replace H : (if t135 = true then (if (l1.length : Int) > 200 then (impl_IslandsOf.j0 k l1 true a0) else ((impl_Pair_58.f l1 a0).bind fun t136 => (impl_IslandsOf.j0 k l1 t136 a0))) else (impl_IslandsOf.j0 k l1 true a0)) = some (r1, r2) := H
    have A5 := Aside0.mk A50
    clear A50
    by_cases c6 : t135 = true
    · subst c6
      have H1 : (if (l1.length : Int) > 200 then (impl_IslandsOf.j0 k l1 true a0) else ((impl_Pair_58.f l1 a0).bind fun t136 => (impl_IslandsOf.j0 k l1 t136 a0))) = some (r1, r2) := by rw [if_pos rfl] at H; exact H
      clear H
      have H := H1
      clear H1
      by_cases c7 : (l1.length : Int) > 200
      · rw [if_pos c7] at H
        have c7b0 : decide (200 < (l1.length : Int)) = true := decide_eq_true c7
        have c7b1 : decide (200 < l1.length) = true := decide_eq_true (by omega)
        clear c7
        (first | rw [c7b0] | (simp only [i64_w, i32_w]; rw [c7b0]) | skip)
        have H' := Aside0.mk H
        clear H
        have hcz8_0 : w4.cell? ⟨gb134, 0, none⟩ = some (.int .i64 a0) := (blk_cell BK134.out 0).trans rfl
        have hfz8_0 := blk_frozen BK134.out 0
        go_wp2_with (first | ((with_reducible refine gate_callee (f := 57) rfl ?_); refine goesL_ (some 18) rfl rfl Try.func57 (by kernel_rfl) rfl #[.int .i64 a0, .int .i64 0, .int .i64 40] rfl (by (try simp only [List.map_toArray, List.map_cons, List.map_nil]); first | done | rfl | (simp only [List.length_drop, List.length_take]; rfl)) ?_; (with_reducible refine (impl_inRange.calls a0 0 40 true _ A5.out).mono ?_); rintro e w' ⟨rfl, ⟨nd, rfl⟩⟩; refine ⟨_, rfl, ?_⟩))
        go_meet
        case rel => exact ⟨_, (true), (by first | rfl | (simp; done) | (simp [*]; done)), H', ⟨by first | omega | exact Nat.le_refl _⟩, ⟨by (with_reducible repeat (first | refine blk_drewN ?_ _ | refine blk_drew ?_ | refine blk_alloc ?_ _)); exact BK134.out⟩, ⟨by repeat (first | (with_reducible first | exact HB.out | apply below_alloc | apply pw_below_drewN | apply below_drew1 | refine below_set ?_ GE134.out) | exact HB.out)⟩⟩
      · rw [if_neg c7] at H
        have c7b0 : decide (200 < (l1.length : Int)) = false := decide_eq_false c7
        have c7b1 : decide (200 < l1.length) = false := decide_eq_false (by omega)
        clear c7
        (first | rw [c7b0] | (simp only [i64_w, i32_w]; rw [c7b0]) | skip)
        replace H := Option.bind_eq_some_iff.mp H
        obtain ⟨t136, A90, H⟩ := H
        replace H : (impl_IslandsOf.j0 k l1 t136 a0) = some (r1, r2) := H
        have A9 := Aside0.mk A90
        clear A90
        have H' := Aside0.mk H
        clear H
        have hcz10_0 : w4.cell? ⟨gb134, 0, none⟩ = some (.int .i64 a0) := (blk_cell BK134.out 0).trans rfl
        have hfz10_0 := blk_frozen BK134.out 0
        go_wp2_with (first | ((with_reducible refine gate_callee (f := 57) rfl ?_); refine goesL_ (some 18) rfl rfl Try.func57 (by kernel_rfl) rfl #[.int .i64 a0, .int .i64 0, .int .i64 40] rfl (by (try simp only [List.map_toArray, List.map_cons, List.map_nil]); first | done | rfl | (simp only [List.length_drop, List.length_take]; rfl)) ?_; (with_reducible refine (impl_inRange.calls a0 0 40 true _ A5.out).mono ?_); rintro e w' ⟨rfl, ⟨nd, rfl⟩⟩; refine ⟨_, rfl, ?_⟩) | (go_at_call 58; (with_reducible refine (impl_Pair_58.calls _ _ l1 gb134 a0 _ ?side1 ?side2 ?side3 t136 A9.out).mono ?_); (case side3 => (with_reducible repeat (first | refine blk_drewN ?_ _ | refine blk_drew ?_ | refine blk_alloc ?_ _)); exact BK134.out); (case side1 => repeat (first | exact (Kd.C_below HR1.out (by repeat (first | (with_reducible first | exact HB.out | apply below_alloc | apply pw_below_drewN | apply below_drew1 | refine below_set ?_ GE134.out) | exact HB.out))) | (with_reducible refine Kd.C_alloc ?_ _) | (with_reducible refine Kd.C_drewN ?_ _) | (with_reducible refine Kd.C_drew ?_))); (case side2 => exact HC1.out); rintro e w11 ⟨rfl, hb⟩; have n0_ := Aside0.mk (blk_below (g := gb134) (o := .cells #[.int .i64 a0] 3 (0, 0)) (by (with_reducible repeat (first | refine blk_drewN ?_ _ | refine blk_drew ?_ | refine blk_alloc ?_ _)); exact BK134.out) hb); have n1_ := Aside0.mk (below_step (by repeat (first | (with_reducible first | exact HB.out | apply below_alloc | apply pw_below_drewN | apply below_drew1 | refine below_set ?_ GE134.out) | exact HB.out)) hb); clear BK134; clear HB; have BK134 := n0_; have HB := n1_; clear n0_ n1_; (try clear hb); (try clear hb2); (try clear hk); (try clear hi)))
        go_meet
        case rel => exact ⟨_, (t136), (by first | rfl | (simp; done) | (simp [*]; done)), H', ⟨by first | omega | exact Nat.le_refl _⟩, ⟨by (with_reducible repeat (first | refine blk_drewN ?_ _ | refine blk_drew ?_ | refine blk_alloc ?_ _)); exact BK134.out⟩, ⟨by repeat (first | (with_reducible first | exact HB.out | apply below_alloc | apply pw_below_drewN | apply below_drew1 | refine below_set ?_ GE134.out) | exact HB.out)⟩⟩
    · replace c6 := Bool.eq_false_iff.mpr c6
      subst c6
      have H1 : (impl_IslandsOf.j0 k l1 true a0) = some (r1, r2) := by rw [if_neg (show ¬ (false = true) by decide)] at H; exact H
      clear H
      have H := H1
      clear H1
      have H' := Aside0.mk H
      clear H
      have hcz12_0 : w4.cell? ⟨gb134, 0, none⟩ = some (.int .i64 a0) := (blk_cell BK134.out 0).trans rfl
      have hfz12_0 := blk_frozen BK134.out 0
      go_wp2_with (first | ((with_reducible refine gate_callee (f := 57) rfl ?_); refine goesL_ (some 18) rfl rfl Try.func57 (by kernel_rfl) rfl #[.int .i64 a0, .int .i64 0, .int .i64 40] rfl (by (try simp only [List.map_toArray, List.map_cons, List.map_nil]); first | done | rfl | (simp only [List.length_drop, List.length_take]; rfl)) ?_; (with_reducible refine (impl_inRange.calls a0 0 40 false _ A5.out).mono ?_); rintro e w' ⟨rfl, ⟨nd, rfl⟩⟩; refine ⟨_, rfl, ?_⟩))
      go_meet
      case rel => exact ⟨_, (true), (by first | rfl | (simp; done) | (simp [*]; done)), H', ⟨by first | omega | exact Nat.le_refl _⟩, ⟨by (with_reducible repeat (first | refine blk_drewN ?_ _ | refine blk_drew ?_ | refine blk_alloc ?_ _)); exact BK134.out⟩, ⟨by repeat (first | (with_reducible first | exact HB.out | apply below_alloc | apply pw_below_drewN | apply below_drew1 | refine below_set ?_ GE134.out) | exact HB.out)⟩⟩
  case rest =>
    clear HC3
    try clear c1
    try clear p2
    try clear c5
    try clear c6
    try clear c7
    try clear c7b0
    try clear c7b1
    try clear hcz10_0
    try clear hcz12_0
    try clear hcz8_0
    try clear hfz10_0
    try clear hfz12_0
    try clear hfz8_0
    obtain ⟨kq, x29_2, rfl, HA, HJ2, BK134, HB⟩ := hcut
    cases kq with
    | zero => exact absurd HA.out (by simp [impl_IslandsOf.j0])
    | succ kj2 =>
      have H := HA.out
      clear HA
      simp only [impl_IslandsOf.j0] at H
      by_cases c13 : x29_2 = true
      · subst c13
        have H1 : (some (([] : List (List Int)), false)) = some (r1, r2) := by rw [if_pos rfl] at H; exact H
        clear H
        have H := H1
        clear H1
        simp only [Option.some.injEq, Prod.mk.injEq] at H
        obtain ⟨rfl, rfl⟩ := H
        go_wp2
        go_ret2
        exact ⟨_, by first | rfl | (simp [errW_none, errW_some] <;> rfl) | (simp [*, errW_none, errW_some] <;> rfl), by first | exact Kd.S_nil _ _ _ _ _ | exact Kd.N_nil _ _ _ _ _ | exact Kd.V_nil _ _ _ _ _ | exact Kd.Q_nil _ _ _ _ _ | exact Kd.R_nil _ _ _ _ _, by repeat (first | (with_reducible first | exact HB.out | apply below_alloc | apply pw_below_drewN | apply below_drew1 | refine below_set ?_ GE134.out) | exact HB.out)⟩
      · replace c13 := Bool.eq_false_iff.mpr c13
        subst c13
        have H1 : (impl_IslandsOf.l0 kj2 l1 (([] : List Int)) a0 0) = some (r1, r2) := by rw [if_neg (show ¬ (false = true) by decide)] at H; exact H
        clear H
        have H := H1
        clear H1
        obtain ⟨y137, hy137⟩ : ∃ y_ : List Int, y_ = (([] : List Int)) := ⟨_, rfl⟩
        replace H : (impl_IslandsOf.l0 kj2 l1 y137 a0 0) = some (r1, r2) := by first | (rw [hy137]; with_reducible exact H) | (have H2_ := (Option.bind_some _ _).symm.trans H; rw [hy137]; with_reducible exact H2_) | (have H2_ := (Option.bind_some _ _).symm.trans H; with_reducible exact H2_) | with_reducible exact H | (rw [hy137]; exact H) | exact H
        have Ny137 := Aside0.mk hy137
        clear hy137
        have H' := Aside0.mk H
        clear H
        go_wp2_with (first | ((with_reducible refine gate_dst (N := 30) rfl ?_); (try (refine gate_guard (by rfl) ?_; dsimp only)); refine Kd.R_lit (Kd.int .i64) _ 3 ?hg (N := 30) ?hd (xs := ([] : List Int)) (inner := []) (ok := fun _ => True) (okp := fun _ => True) ?hr ?hp (fun _ hk => hk) trivial (Below.refl _ _) (Nat.le_refl _) (by simp) ?_; (case hd => rfl); (case hg => rfl); (case hr => first | (go_simp; done) | (go_simp; rfl)); (case hp => exact (Reps.none _ _)); intro v138 w14 ho15 hb hg_ hnew_; clear hg_ hnew_; (first | rw [← Ny137.out] at ho15 | (simp only [Int.reduceToNat] at ho15; rw [← Ny137.out] at ho15)); have n0_ := Aside0.mk (Kd.R_lower (Kd.R_newB ho15 (g := gb134) (o := .cells #[.int .i64 a0] 3 (0, 0)) (by (with_reducible repeat (first | refine blk_drewN ?_ _ | refine blk_drew ?_ | refine blk_alloc ?_ _)); exact BK134.out)) (below_size (by repeat (first | (with_reducible first | exact HB.out | apply below_alloc | apply pw_below_drewN | apply below_drew1 | refine below_set ?_ GE134.out) | exact HB.out)))); have n1_ := Aside0.mk (blk_below (g := gb134) (o := .cells #[.int .i64 a0] 3 (0, 0)) (by (with_reducible repeat (first | refine blk_drewN ?_ _ | refine blk_drew ?_ | refine blk_alloc ?_ _)); exact BK134.out) hb); have n2_ := Aside0.mk (below_step (by repeat (first | (with_reducible first | exact HB.out | apply below_alloc | apply pw_below_drewN | apply below_drew1 | refine below_set ?_ GE134.out) | exact HB.out)) hb); clear BK134; clear HB; have HO139 := n0_; have BK134 := n1_; have HB := n2_; clear n0_ n1_ n2_; clear hb ho15; have hcz16_0 : w14.cell? ⟨gb134, 0, none⟩ = some (.int .i64 a0) := (blk_cell BK134.out 0).trans rfl; have hfz16_0 := blk_frozen BK134.out 0))
        go_loopg [6, 32] kj2 (fun kq v6 v32 w' => ∃ (x6_2 : List Int) (x32_2 : Int), v32 = .int .i64 x32_2 ∧ Aside0 (impl_IslandsOf.l0 kq l1 x6_2 a0 x32_2 = some (r1, r2)) ∧ Aside0 (kq ≤ kj2) ∧ Aside0 (Kd.R (Kd.int .i64) 3 w' w.heap.size (fun k_ => k_ ≠ gb134) v6 x6_2) ∧ Aside0 (w'.heap[gb134]? = some (.cells #[.int .i64 a0] 3 (0, 0))) ∧ Aside0 (Below w.heap.size w w'))
        case atStart => exact ⟨(y137), (0), (by first | rfl | (simp; done) | (simp [*]; done)), H', ⟨Nat.le_refl _⟩, ⟨by (with_reducible repeat (first | apply Kd.R_alloc | apply Kd.R_drewN | apply Kd.R_drew)); exact Kd.R_mono HO139.out (fun _ hk => hk.2)⟩, ⟨by (with_reducible repeat (first | refine blk_drewN ?_ _ | refine blk_drew ?_ | refine blk_alloc ?_ _)); exact BK134.out⟩, ⟨by repeat (first | (with_reducible first | exact HB.out | apply below_alloc | apply pw_below_drewN | apply below_drew1 | refine below_set ?_ GE134.out) | exact HB.out)⟩⟩
        case round =>
          clear H'
          try clear c1
          try clear p2
          try clear c5
          try clear c6
          try clear c7
          try clear c7b0
          try clear c7b1
          try clear c13
          try clear hcz10_0
          try clear hcz12_0
          try clear hcz16_0
          try clear hcz8_0
          try clear hfz10_0
          try clear hfz12_0
          try clear hfz16_0
          try clear hfz8_0
          try clear p2
          obtain ⟨x6_2, x32_2, rfl, HA, HK2, HO_6, BK134, HB⟩ := hrel
          cases gk with
          | zero => exact absurd HA.out (by simp [impl_IslandsOf.l0])
          | succ k2 =>
            have H := HA.out
            clear HA
            simp only [impl_IslandsOf.l0] at H
            by_cases c17 : x32_2 < a0
            · rw [if_pos c17] at H
              have c17b0 : decide (x32_2 < a0) = true := decide_eq_true c17
              clear c17
              by_cases c18 : x6_2.length < 17592186044416
              · rw [if_pos c18] at H
                have LMc18 := Aside0.mk c18
                clear c18
                obtain ⟨y140, hy140⟩ : ∃ y_ : List Int, y_ = (x6_2 ++ [x32_2]) := ⟨_, rfl⟩
                replace H : (impl_IslandsOf.l0 k2 l1 y140 a0 (wrap64 (x32_2 + 1))) = some (r1, r2) := by first | (rw [hy140]; with_reducible exact H) | (have H2_ := (Option.bind_some _ _).symm.trans H; rw [hy140]; with_reducible exact H2_) | (have H2_ := (Option.bind_some _ _).symm.trans H; with_reducible exact H2_) | with_reducible exact H | (rw [hy140]; exact H) | exact H
                have Ny140 := Aside0.mk hy140
                clear hy140
                have H' := Aside0.mk H
                clear H
                go_wp2_with (first | ((with_reducible refine gate_builtin (b := .append) (xs := #[.tmp 35, .tmp 37]) rfl ?_); (try (refine gate_guard (by rfl) ?_; dsimp only)); at_builtin; refine Kd.R_append (Kd.int .i64) (w0 := w) w.heap.size rfl (.tmp 35) (.tmp 37) 74 3 (.int .i64 0) 8 rfl Try.underlying74 info3 rfl (by decide) (by omega) u6 x6_2 x32_2 [.int .i64 x32_2] (fun k_ => k_ ≠ gb134) (fun _ => False) rfl rfl ?aP (fun _ hk => hk.elim) ?aF ?aO ?aB ?aS ?aL ?_; (case aP => exact rfl); (case aB => exact (by repeat (first | (with_reducible first | exact HB.out | apply below_alloc | apply pw_below_drewN | apply below_drew1 | refine below_set ?_ GE134.out) | exact HB.out))); (case aF => exact (fun k_ hk => Kd.freshB (g := gb134) (o := .cells #[.int .i64 a0] 3 (0, 0)) (by (with_reducible repeat (first | refine blk_drewN ?_ _ | refine blk_drew ?_ | refine blk_alloc ?_ _)); exact BK134.out) k_ hk)); (case aO => exact (by (with_reducible repeat (first | apply Kd.R_alloc | apply Kd.R_drewN | apply Kd.R_drew)); exact HO_6.out)); (case aS => exact (below_size (by repeat (first | (with_reducible first | exact HB.out | apply below_alloc | apply pw_below_drewN | apply below_drew1 | refine below_set ?_ GE134.out) | exact HB.out)))); (case aL => have := LMc18.out; omega); intro v141 w19 ho hb hg hat; rw [← Ny140.out] at ho; have n0_ := Aside0.mk (blk_grown (g := gb134) (o := .cells #[.int .i64 a0] 3 (0, 0)) (by (with_reducible repeat (first | refine blk_drewN ?_ _ | refine blk_drew ?_ | refine blk_alloc ?_ _)); exact BK134.out) hg (Kd.R_away HO_6.out (fun _ hk => hk))); have n1_ := Aside0.mk (hb); have n2_ := Aside0.mk (ho); clear BK134; clear HB; clear HO_6; have BK134 := n0_; have HB := n1_; have HO142 := n2_; clear n0_ n1_ n2_; clear ho hb hg hat))
                go_roundg k2
                case measure => have := HJ2.out; have := HK2.out; omega
                case rel => exact ⟨(y140), (wrap64 (x32_2 + 1)), (by first | rfl | (simp; done) | (simp [*]; done)), H', ⟨by have := HJ2.out; have := HK2.out; omega⟩, ⟨by (with_reducible repeat (first | apply Kd.R_alloc | apply Kd.R_drewN | apply Kd.R_drew)); exact HO142.out⟩, ⟨by (with_reducible repeat (first | refine blk_drewN ?_ _ | refine blk_drew ?_ | refine blk_alloc ?_ _)); exact BK134.out⟩, ⟨by repeat (first | (with_reducible first | exact HB.out | apply below_alloc | apply pw_below_drewN | apply below_drew1 | refine below_set ?_ GE134.out) | exact HB.out)⟩⟩
              · rw [if_neg c18] at H
                exact absurd H (by simp)
            · rw [if_neg c17] at H
              have c17b0 : decide (x32_2 < a0) = false := decide_eq_false c17
              clear c17
              have H' := Aside0.mk H
              clear H
              go_wp2
              go_loopg [42] k2 (fun kq v42 w' => ∃ (x6_3 : List Int) (x42_3 : Int), v42 = .int .i64 x42_3 ∧ Aside0 (impl_IslandsOf.l1 kq x6_3 l1 (l1.length : Int) x42_3 = some (r1, r2)) ∧ Aside0 (kq ≤ k2) ∧ Aside0 (Kd.R (Kd.int .i64) 3 w' w.heap.size (fun k_ => k_ ≠ gb134) u6 x6_3) ∧ Aside0 (w'.heap[gb134]? = some (.cells #[.int .i64 a0] 3 (0, 0))) ∧ Aside0 (Below w.heap.size w w'))
              case atStart => exact ⟨(x6_2), (0), (by first | rfl | (simp; done) | (simp [*]; done)), H', ⟨Nat.le_refl _⟩, ⟨by (with_reducible repeat (first | apply Kd.R_alloc | apply Kd.R_drewN | apply Kd.R_drew)); exact HO_6.out⟩, ⟨by (with_reducible repeat (first | refine blk_drewN ?_ _ | refine blk_drew ?_ | refine blk_alloc ?_ _)); exact BK134.out⟩, ⟨by repeat (first | (with_reducible first | exact HB.out | apply below_alloc | apply pw_below_drewN | apply below_drew1 | refine below_set ?_ GE134.out) | exact HB.out)⟩⟩
              case round =>
                clear H'
                try clear c1
                try clear p2
                try clear c5
                try clear c6
                try clear p6
                try clear c7
                try clear c7b0
                try clear c7b1
                try clear c13
                try clear c17
                try clear c17b0
                try clear c18
                try clear c19
                try clear hcz10_0
                try clear hcz12_0
                try clear hcz16_0
                try clear hcz8_0
                try clear hfz10_0
                try clear hfz12_0
                try clear hfz16_0
                try clear hfz8_0
                try clear p2
                obtain ⟨x6_3, x42_3, rfl, HA, HK3, HO_6, BK134, HB⟩ := hrel
                cases gk with
                | zero => exact absurd HA.out (by simp [impl_IslandsOf.l1])
                | succ k3 =>
                  have H := HA.out
                  clear HA
                  simp only [impl_IslandsOf.l1] at H
                  by_cases c20 : x42_3 < (l1.length : Int)
                  · rw [if_pos c20] at H
                    have c20b0 : decide (x42_3 < (l1.length : Int)) = true := decide_eq_true c20
                    clear c20
                    by_cases c21 : 0 ≤ x42_3
                    · rw [if_pos c21] at H
                      have c21b0 : decide (0 ≤ x42_3) = true := decide_eq_true c21
                      clear c21
                      by_cases c22 : x42_3 < (l1.length : Int)
                      · rw [if_pos c22] at H
                        have c22b0 : decide (x42_3 < (l1.length : Int)) = true := decide_eq_true c22
                        clear c22
                        by_cases c23 : 0 ≤ ((rd_T90 l1 x42_3).f0)
                        · rw [if_pos c23] at H
                          have c23b0 : decide (0 ≤ ((rd_T90 l1 x42_3).f0)) = true := decide_eq_true c23
                          clear c23
                          by_cases c24 : ((rd_T90 l1 x42_3).f0) < (x6_3.length : Int)
                          · rw [if_pos c24] at H
                            have c24b0 : decide (((rd_T90 l1 x42_3).f0) < (x6_3.length : Int)) = true := decide_eq_true c24
                            clear c24
                            by_cases c25 : 0 ≤ ((rd_T90 l1 x42_3).f1)
                            · rw [if_pos c25] at H
                              have c25b0 : decide (0 ≤ ((rd_T90 l1 x42_3).f1)) = true := decide_eq_true c25
                              clear c25
                              by_cases c26 : ((rd_T90 l1 x42_3).f1) < (x6_3.length : Int)
                              · rw [if_pos c26] at H
                                have c26b0 : decide (((rd_T90 l1 x42_3).f1) < (x6_3.length : Int)) = true := decide_eq_true c26
                                clear c26
                                obtain ⟨ji27, hji27⟩ : ∃ j_ : Int, (mn (rd x6_3 ((rd_T90 l1 x42_3).f0)) (rd x6_3 ((rd_T90 l1 x42_3).f1))) = j_ := ⟨_, rfl⟩
                                replace H : (impl_IslandsOf.l2 k3 x6_3 ji27 (mx (rd x6_3 ((rd_T90 l1 x42_3).f0)) (rd x6_3 ((rd_T90 l1 x42_3).f1))) l1 (l1.length : Int) x42_3 (x6_3.length : Int) 0) = some (r1, r2) := by first | (rw [hji27] at H; exact H) | (simp only [hji27] at H ⊢; exact H)
                                have hji27_ : (if (rd x6_3 ((rd_T90 l1 x42_3).f1)) < (rd x6_3 ((rd_T90 l1 x42_3).f0)) then (rd x6_3 ((rd_T90 l1 x42_3).f1)) else (rd x6_3 ((rd_T90 l1 x42_3).f0))) = ji27 := hji27
                                obtain ⟨ji28, hji28⟩ : ∃ j_ : Int, (mx (rd x6_3 ((rd_T90 l1 x42_3).f0)) (rd x6_3 ((rd_T90 l1 x42_3).f1))) = j_ := ⟨_, rfl⟩
                                replace H : (impl_IslandsOf.l2 k3 x6_3 ji27 ji28 l1 (l1.length : Int) x42_3 (x6_3.length : Int) 0) = some (r1, r2) := by first | (rw [hji28] at H; exact H) | (simp only [hji28] at H ⊢; exact H)
                                have hji28_ : (if (rd x6_3 ((rd_T90 l1 x42_3).f0)) < (rd x6_3 ((rd_T90 l1 x42_3).f1)) then (rd x6_3 ((rd_T90 l1 x42_3).f1)) else (rd x6_3 ((rd_T90 l1 x42_3).f0))) = ji28 := hji28
                                have H' := Aside0.mk H
                                clear H
                                have p143 : 0 ≤ (x42_3 : Int) := of_decide_eq_true (by first | (with_reducible assumption) | assumption)
                                have q143 : x42_3 < (l1.length : Int) := of_decide_eq_true (by first | (with_reducible assumption) | assumption)
                                obtain ⟨ad143, e143, hx143_0, hx143_1⟩ := at_T90 HR1.out x42_3 p143 q143
                                cases e143
                                replace hx143_0 := (HB.out.cell (World.block_lt_of_cell? w _ hx143_0)).trans hx143_0
                                replace hx143_1 := (HB.out.cell (World.block_lt_of_cell? w _ hx143_1)).trans hx143_1
                                replace p143 := eq_true p143
                                replace q143 := eq_true q143
                                try go_wp2_with (first | ((with_reducible refine gate_dst (N := 9) rfl ?_); (try (refine gate_guard (by rfl) ?_; dsimp only)); refine box_event ?hg (N := 9) ?hd (cs := #[.int .i64 0, .int .i64 0]) (t := 90) ?hr ?_; (case hd => rfl); (case hg => rfl); (case hr => first | (go_simp; done) | (go_simp; rfl)); intro gb144 hg w29 hbox hb; have n0_ := Aside0.mk (Kd.R_below (by (with_reducible repeat (first | apply Kd.R_alloc | apply Kd.R_drewN | apply Kd.R_drew)); exact HO_6.out) hb); have n1_ := Aside0.mk (blk_below (g := gb134) (o := .cells #[.int .i64 a0] 3 (0, 0)) (by (with_reducible repeat (first | refine blk_drewN ?_ _ | refine blk_drew ?_ | refine blk_alloc ?_ _)); exact BK134.out) hb); have n2_ := Aside0.mk (below_step (by repeat (first | (with_reducible first | exact HB.out | apply below_alloc | apply pw_below_drewN | apply below_drew1 | refine below_set ?_ GE134.out) | exact HB.out)) hb); have n3_ := Aside0.mk (hbox); have n4_ := Aside0.mk ((by rw [hg]; exact (below_size (by repeat (first | (with_reducible first | exact HB.out | apply below_alloc | apply pw_below_drewN | apply below_drew1 | refine below_set ?_ GE134.out) | exact HB.out))) : w.heap.size ≤ gb144)); have n5_ := Aside0.mk ((by rw [hg]; exact (below_size (by repeat (first | (with_reducible first | exact HB.out | apply below_alloc | apply pw_below_drewN | apply below_drew1 | refine below_set ?_ GE134.out) | exact HB.out))) : w.heap.size ≤ gb144)); have n6_ := Aside0.mk ((by rw [hg]; exact Nat.ne_of_lt (blk_lt (g := gb134) (o := .cells #[.int .i64 a0] 3 (0, 0)) (by (with_reducible repeat (first | refine blk_drewN ?_ _ | refine blk_drew ?_ | refine blk_alloc ?_ _)); exact BK134.out)) : gb134 ≠ gb144)); have n7_ := Aside0.mk ((by rw [hg]; exact Nat.ne_of_gt (blk_lt (g := gb134) (o := .cells #[.int .i64 a0] 3 (0, 0)) (by (with_reducible repeat (first | refine blk_drewN ?_ _ | refine blk_drew ?_ | refine blk_alloc ?_ _)); exact BK134.out)) : gb144 ≠ gb134)); clear HO_6; clear BK134; clear HB; have HO_6 := n0_; have BK134 := n1_; have HB := n2_; have BK144 := n3_; have GW144 := n4_; have GE144 := n5_; have NB134_144 := n6_; have NB144_134 := n7_; clear n0_ n1_ n2_ n3_ n4_ n5_ n6_ n7_; clear hb hbox hg; have hnb30 := NB144_134.out; have hnc30 := NB134_144.out; have hcz31_0 : w29.cell? ⟨gb144, 0, none⟩ = some (.int .i64 0) := (blk_cell BK144.out 0).trans rfl; have hcz31_1 : w29.cell? ⟨gb144, 1, none⟩ = some (.int .i64 0) := (blk_cell BK144.out 1).trans rfl; have hfz31_0 := blk_frozen BK144.out 0; have hfz31_1 := blk_frozen BK144.out 1))
                                have n0_ : Aside0 (Kd.R (Kd.int .i64) 3 ((w29.setCell ⟨gb144, 0, none⟩ (.int .i64 ((rd_T90 l1 x42_3).f0))).setCell ⟨gb144, 1, none⟩ (.int .i64 ((rd_T90 l1 x42_3).f1))) w.heap.size (fun k_ => k_ ≠ gb134) u6 x6_3) := ⟨by (with_reducible repeat (first | apply Kd.R_alloc | apply Kd.R_drewN | apply Kd.R_drew)); exact Kd.R_mono (Kd.R_far (p := ⟨gb144, 1, none⟩) (Kd.R_far (p := ⟨gb144, 0, none⟩) (Kd.R_types HO_6.out BK144.out (by decide)) (fun _ hk => hk.2) (.int .i64 ((rd_T90 l1 x42_3).f0))) (fun _ hk => hk.2) (.int .i64 ((rd_T90 l1 x42_3).f1))) (fun _ hk => hk.1)⟩
                                have n1_ : Aside0 (((w29.setCell ⟨gb144, 0, none⟩ (.int .i64 ((rd_T90 l1 x42_3).f0))).setCell ⟨gb144, 1, none⟩ (.int .i64 ((rd_T90 l1 x42_3).f1))).heap[gb134]? = some (.cells #[.int .i64 a0] 3 (0, 0))) := ⟨by (with_reducible repeat (first | refine blk_drewN ?_ _ | refine blk_drew ?_ | refine blk_alloc ?_ _)); refine blk_far ?_ NB134_144.out _; (with_reducible repeat (first | refine blk_drewN ?_ _ | refine blk_drew ?_ | refine blk_alloc ?_ _)); refine blk_far ?_ NB134_144.out _; (with_reducible repeat (first | refine blk_drewN ?_ _ | refine blk_drew ?_ | refine blk_alloc ?_ _)); exact BK134.out⟩
                                have n2_ : Aside0 (((w29.setCell ⟨gb144, 0, none⟩ (.int .i64 ((rd_T90 l1 x42_3).f0))).setCell ⟨gb144, 1, none⟩ (.int .i64 ((rd_T90 l1 x42_3).f1))).heap[gb144]? = some (.cells #[.int .i64 ((rd_T90 l1 x42_3).f0), .int .i64 ((rd_T90 l1 x42_3).f1)] 90 (0, 0))) := ⟨by (with_reducible repeat (first | refine blk_drewN ?_ _ | refine blk_drew ?_ | refine blk_alloc ?_ _)); refine blk_put (cs := #[.int .i64 ((rd_T90 l1 x42_3).f0), .int .i64 0]) ?_ 1 _ rfl; (with_reducible repeat (first | refine blk_drewN ?_ _ | refine blk_drew ?_ | refine blk_alloc ?_ _)); refine blk_put (cs := #[.int .i64 0, .int .i64 0]) ?_ 0 _ rfl; (with_reducible repeat (first | refine blk_drewN ?_ _ | refine blk_drew ?_ | refine blk_alloc ?_ _)); exact BK144.out⟩
                                have n3_ : Aside0 (Below w.heap.size w ((w29.setCell ⟨gb144, 0, none⟩ (.int .i64 ((rd_T90 l1 x42_3).f0))).setCell ⟨gb144, 1, none⟩ (.int .i64 ((rd_T90 l1 x42_3).f1)))) := ⟨by repeat (first | (with_reducible first | exact HB.out | apply below_alloc | apply pw_below_drewN | apply below_drew1 | refine below_set ?_ GE134.out | refine below_set ?_ GE144.out) | exact HB.out)⟩
                                (try clear HO_6)
                                (try clear BK134)
                                (try clear BK144)
                                (try clear HB)
                                generalize ((w29.setCell ⟨gb144, 0, none⟩ (.int .i64 ((rd_T90 l1 x42_3).f0))).setCell ⟨gb144, 1, none⟩ (.int .i64 ((rd_T90 l1 x42_3).f1))) = w32 at n0_ n1_ n2_ n3_ ⊢
                                have HO_6 := n0_
                                have BK134 := n1_
                                have BK144 := n2_
                                have HB := n3_
                                clear n0_ n1_ n2_ n3_
                                have n0_ := Aside0.mk (Kd.R_drew HO_6.out)
                                have n1_ := Aside0.mk (blk_drew BK134.out)
                                have n2_ := Aside0.mk (blk_drew BK144.out)
                                have n3_ := Aside0.mk (below_drew1 HB.out)
                                clear HO_6
                                clear BK134
                                clear BK144
                                clear HB
                                have HO_6 := n0_
                                have BK134 := n1_
                                have BK144 := n2_
                                have HB := n3_
                                clear n0_ n1_ n2_ n3_
                                obtain ⟨Ao34, co34, eo34⟩ := Kd.R_slice HO_6.out
                                (first | subst eo34 | (injection eo34 with f1_ f2_ f3_; have f4_ := f1_.symm; have f5_ := f3_.symm; clear f1_ f2_ f3_; subst f4_; subst f5_))
                                have p145 : 0 ≤ (((rd_T90 l1 x42_3).f0) : Int) := of_decide_eq_true (by first | (with_reducible assumption) | assumption)
                                have q145 : ((rd_T90 l1 x42_3).f0) < (x6_3.length : Int) := of_decide_eq_true (by first | (with_reducible assumption) | assumption)
                                obtain ⟨ad145, e145, hx145_0⟩ := Kd.at_int (Kd.R_reads' HO_6.out).2.2 ((rd_T90 l1 x42_3).f0) p145 q145
                                cases e145
                                replace p145 := eq_true p145
                                replace q145 := eq_true q145
                                have p146 : 0 ≤ (((rd_T90 l1 x42_3).f1) : Int) := of_decide_eq_true (by first | (with_reducible assumption) | assumption)
                                have q146 : ((rd_T90 l1 x42_3).f1) < (x6_3.length : Int) := of_decide_eq_true (by first | (with_reducible assumption) | assumption)
                                obtain ⟨ad146, e146, hx146_0⟩ := Kd.at_int (Kd.R_reads' HO_6.out).2.2 ((rd_T90 l1 x42_3).f1) p146 q146
                                obtain rfl : ad145 = ad146 := (by injection e146)
                                replace p146 := eq_true p146
                                replace q146 := eq_true q146
                                have p147 : 0 ≤ (((rd_T90 l1 x42_3).f0) : Int) := of_decide_eq_true (by first | (with_reducible assumption) | assumption)
                                have q147 : ((rd_T90 l1 x42_3).f0) < (x6_3.length : Int) := of_decide_eq_true (by first | (with_reducible assumption) | assumption)
                                obtain ⟨ad147, e147, hx147_0⟩ := Kd.at_int (Kd.R_reads' HO_6.out).2.2 ((rd_T90 l1 x42_3).f0) p147 q147
                                obtain rfl : ad145 = ad147 := (by injection e147)
                                replace p147 := eq_true p147
                                replace q147 := eq_true q147
                                have p148 : 0 ≤ (((rd_T90 l1 x42_3).f1) : Int) := of_decide_eq_true (by first | (with_reducible assumption) | assumption)
                                have q148 : ((rd_T90 l1 x42_3).f1) < (x6_3.length : Int) := of_decide_eq_true (by first | (with_reducible assumption) | assumption)
                                obtain ⟨ad148, e148, hx148_0⟩ := Kd.at_int (Kd.R_reads' HO_6.out).2.2 ((rd_T90 l1 x42_3).f1) p148 q148
                                obtain rfl : ad145 = ad148 := (by injection e148)
                                replace p148 := eq_true p148
                                replace q148 := eq_true q148
                                refine start_ (n := 24) (S := fun w' => w'.cell? ⟨gb144, 0, none⟩ = some (.int .i64 ((rd_T90 l1 x42_3).f0)) ∧ w'.cell? ⟨gb144, 1, none⟩ = some (.int .i64 ((rd_T90 l1 x42_3).f1)) ∧ w'.cell? (ad145.add (((rd_T90 l1 x42_3).f0)).toNat) = some (.int .i64 (rd x6_3 ((rd_T90 l1 x42_3).f0))) ∧ w'.cell? (ad145.add (((rd_T90 l1 x42_3).f1)).toNat) = some (.int .i64 (rd x6_3 ((rd_T90 l1 x42_3).f1))) ∧ w'.cell? (ad145.add (((rd_T90 l1 x42_3).f0)).toNat) = some (.int .i64 (rd x6_3 ((rd_T90 l1 x42_3).f0))) ∧ w'.cell? (ad145.add (((rd_T90 l1 x42_3).f1)).toNat) = some (.int .i64 (rd x6_3 ((rd_T90 l1 x42_3).f1)))) (ds := []) #[false, false, false, false, false, false, false, false, false, false, false, false, false, false, false, false, false, false, false, false, false, false, false, false] (by kernel_rfl) rfl rfl ⟨(blk_cell BK144.out 0).trans rfl, (blk_cell BK144.out 1).trans rfl, hx145_0, hx146_0, hx147_0, hx148_0⟩ (fun hHeld => ?_); refine with_tabW impl_IslandsOf.tab12 impl_IslandsOf.bits12 (fun HT_ HW_ => ?_)
                                generalize w32.drew = w33 at HO_6 BK134 BK144 HB hx145_0 hx146_0 hx147_0 hx148_0 hHeld ⊢
                                refine pure_ (i := 0) (N := some 46) (v := ?_) (a' := ?_) #[true, false, false, false, false, false, false, false, false, false, false, false, false, false, false, false, false, false, false, false, false, false, false, false] rfl rfl (any_of HT_.out (by kernel_rfl)) (fun _ _ _ h => h) (Or.inl ⟨by rfl, ?_⟩) ?_ ?_
                                rotate_left
                                · intro w'
                                  go_simp
                                  with_reducible rfl
                                rotate_left
                                · simp only [Act.put, List.setIfInBounds_toArray, List.set_cons_zero, List.set_cons_succ, i64_w, i32_w]
                                  rfl
                                refine pure_ (i := 1) (N := some 47) (v := ?_) (a' := ?_) #[true, true, false, false, false, false, false, false, false, false, false, false, false, false, false, false, false, false, false, false, false, false, false, false] rfl rfl (any_of HT_.out (by kernel_rfl)) (fun _ _ _ h => h) (Or.inl ⟨by rfl, ?_⟩) ?_ ?_
                                rotate_left
                                · intro w'
                                  go_simp
                                  with_reducible rfl
                                rotate_left
                                · simp only [Act.put, List.setIfInBounds_toArray, List.set_cons_zero, List.set_cons_succ, i64_w, i32_w]
                                  rfl
                                refine pure_ (i := 5) (N := some 51) (v := ?_) (a' := ?_) #[true, true, false, false, false, true, false, false, false, false, false, false, false, false, false, false, false, false, false, false, false, false, false, false] rfl rfl (any_of HT_.out (by kernel_rfl)) (fun _ _ _ h => h) (Or.inl ⟨by rfl, ?_⟩) ?_ ?_
                                rotate_left
                                · intro w'
                                  go_simp
                                  with_reducible rfl
                                rotate_left
                                · simp only [Act.put, List.setIfInBounds_toArray, List.set_cons_zero, List.set_cons_succ, i64_w, i32_w]
                                  rfl
                                refine pure_ (i := 6) (N := some 52) (v := ?_) (a' := ?_) #[true, true, false, false, false, true, true, false, false, false, false, false, false, false, false, false, false, false, false, false, false, false, false, false] rfl rfl (any_of HT_.out (by kernel_rfl)) (fun _ _ _ h => h) (Or.inl ⟨by rfl, ?_⟩) ?_ ?_
                                rotate_left
                                · intro w'
                                  go_simp
                                  with_reducible rfl
                                rotate_left
                                · simp only [Act.put, List.setIfInBounds_toArray, List.set_cons_zero, List.set_cons_succ, i64_w, i32_w]
                                  rfl
                                refine pure_ (i := 11) (N := some 57) (v := ?_) (a' := ?_) #[true, true, false, false, false, true, true, false, false, false, false, true, false, false, false, false, false, false, false, false, false, false, false, false] rfl rfl (any_of HT_.out (by kernel_rfl)) (fun _ _ _ h => h) (Or.inl ⟨by rfl, ?_⟩) ?_ ?_
                                rotate_left
                                · intro w'
                                  go_simp
                                  with_reducible rfl
                                rotate_left
                                · simp only [Act.put, List.setIfInBounds_toArray, List.set_cons_zero, List.set_cons_succ, i64_w, i32_w]
                                  rfl
                                refine pure_ (i := 12) (N := some 58) (v := ?_) (a' := ?_) #[true, true, false, false, false, true, true, false, false, false, false, true, true, false, false, false, false, false, false, false, false, false, false, false] rfl rfl (any_of HT_.out (by kernel_rfl)) (fun _ _ _ h => h) (Or.inl ⟨by rfl, ?_⟩) ?_ ?_
                                rotate_left
                                · intro w'
                                  go_simp
                                  with_reducible rfl
                                rotate_left
                                · simp only [Act.put, List.setIfInBounds_toArray, List.set_cons_zero, List.set_cons_succ, i64_w, i32_w]
                                  rfl
                                refine pure_ (i := 16) (N := some 62) (v := ?_) (a' := ?_) #[true, true, false, false, false, true, true, false, false, false, false, true, true, false, false, false, true, false, false, false, false, false, false, false] rfl rfl (any_of HT_.out (by kernel_rfl)) (fun _ _ _ h => h) (Or.inl ⟨by rfl, ?_⟩) ?_ ?_
                                rotate_left
                                · intro w'
                                  go_simp
                                  with_reducible rfl
                                rotate_left
                                · simp only [Act.put, List.setIfInBounds_toArray, List.set_cons_zero, List.set_cons_succ, i64_w, i32_w]
                                  rfl
                                refine pure_ (i := 17) (N := some 63) (v := ?_) (a' := ?_) #[true, true, false, false, false, true, true, false, false, false, false, true, true, false, false, false, true, true, false, false, false, false, false, false] rfl rfl (any_of HT_.out (by kernel_rfl)) (fun _ _ _ h => h) (Or.inl ⟨by rfl, ?_⟩) ?_ ?_
                                rotate_left
                                · intro w'
                                  go_simp
                                  with_reducible rfl
                                rotate_left
                                · simp only [Act.put, List.setIfInBounds_toArray, List.set_cons_zero, List.set_cons_succ, i64_w, i32_w]
                                  rfl
                                refine take_ (i := 2) (N := some 48) (v := ?_) (a' := ?_) #[true, true, true, false, false, true, true, false, false, false, false, true, true, false, false, false, true, true, false, false, false, false, false, false] rfl rfl (take_ofW HT_.out HW_.out (by kernel_rfl)) (fun _ _ _ h => h) (Or.inl ⟨by rfl, ?_⟩) hHeld ?_ ?_
                                rotate_left
                                · rintro w' ⟨s0, s1, s2, s3, s4, s5⟩
                                  go_simp
                                  with_reducible rfl
                                rotate_left
                                · simp only [Act.put, List.setIfInBounds_toArray, List.set_cons_zero, List.set_cons_succ, i64_w, i32_w]
                                  rfl
                                refine pure_ (i := 3) (N := some 49) (v := ?_) (a' := ?_) #[true, true, true, true, false, true, true, false, false, false, false, true, true, false, false, false, true, true, false, false, false, false, false, false] rfl rfl (any_of HT_.out (by kernel_rfl)) (fun _ _ _ h => h) (Or.inl ⟨by rfl, ?_⟩) ?_ ?_
                                rotate_left
                                · intro w'
                                  go_simp
                                  with_reducible rfl
                                rotate_left
                                · simp only [Act.put, List.setIfInBounds_toArray, List.set_cons_zero, List.set_cons_succ, i64_w, i32_w]
                                  rfl
                                refine take_ (i := 4) (N := some 50) (v := ?_) (a' := ?_) #[true, true, true, true, true, true, true, false, false, false, false, true, true, false, false, false, true, true, false, false, false, false, false, false] rfl rfl (take_ofW HT_.out HW_.out (by kernel_rfl)) (fun _ _ _ h => h) (Or.inl ⟨by rfl, ?_⟩) hHeld ?_ ?_
                                rotate_left
                                · rintro w' ⟨s0, s1, s2, s3, s4, s5⟩
                                  go_simp
                                  with_reducible rfl
                                rotate_left
                                · simp only [Act.put, List.setIfInBounds_toArray, List.set_cons_zero, List.set_cons_succ, i64_w, i32_w]
                                  rfl
                                refine take_ (i := 7) (N := some 53) (v := ?_) (a' := ?_) #[true, true, true, true, true, true, true, true, false, false, false, true, true, false, false, false, true, true, false, false, false, false, false, false] rfl rfl (take_ofW HT_.out HW_.out (by kernel_rfl)) (fun _ _ _ h => h) (Or.inl ⟨by rfl, ?_⟩) hHeld ?_ ?_
                                rotate_left
                                · rintro w' ⟨s0, s1, s2, s3, s4, s5⟩
                                  go_simp
                                  with_reducible rfl
                                rotate_left
                                · simp only [Act.put, List.setIfInBounds_toArray, List.set_cons_zero, List.set_cons_succ, i64_w, i32_w]
                                  rfl
                                refine pure_ (i := 8) (N := some 54) (v := ?_) (a' := ?_) #[true, true, true, true, true, true, true, true, true, false, false, true, true, false, false, false, true, true, false, false, false, false, false, false] rfl rfl (any_of HT_.out (by kernel_rfl)) (fun _ _ _ h => h) (Or.inl ⟨by rfl, ?_⟩) ?_ ?_
                                rotate_left
                                · intro w'
                                  go_simp
                                  with_reducible rfl
                                rotate_left
                                · simp only [Act.put, List.setIfInBounds_toArray, List.set_cons_zero, List.set_cons_succ, i64_w, i32_w]
                                  rfl
                                refine take_ (i := 9) (N := some 55) (v := ?_) (a' := ?_) #[true, true, true, true, true, true, true, true, true, true, false, true, true, false, false, false, true, true, false, false, false, false, false, false] rfl rfl (take_ofW HT_.out HW_.out (by kernel_rfl)) (fun _ _ _ h => h) (Or.inl ⟨by rfl, ?_⟩) hHeld ?_ ?_
                                rotate_left
                                · rintro w' ⟨s0, s1, s2, s3, s4, s5⟩
                                  go_simp
                                  with_reducible rfl
                                rotate_left
                                · simp only [Act.put, List.setIfInBounds_toArray, List.set_cons_zero, List.set_cons_succ, i64_w, i32_w]
                                  rfl
                                refine pure_ (i := 10) (N := some 56) (v := ?_) (a' := ?_) #[true, true, true, true, true, true, true, true, true, true, true, true, true, false, false, false, true, true, false, false, false, false, false, false] rfl rfl (any_of HT_.out (by kernel_rfl)) (fun _ _ _ h => h) (Or.inl ⟨by rfl, ?_⟩) ?_ ?_
                                rotate_left
                                · intro w'
                                  go_simp
                                  with_reducible rfl
                                rotate_left
                                · simp only [Act.put, List.setIfInBounds_toArray, List.set_cons_zero, List.set_cons_succ, i64_w, i32_w]
                                  rfl
                                refine pure_ (i := 22) (N := some 10) (v := ?_) (a' := ?_) #[true, true, true, true, true, true, true, true, true, true, true, true, true, false, false, false, true, true, false, false, false, false, true, false] rfl rfl (any_of HT_.out (by kernel_rfl)) (fun _ _ _ h => h) (Or.inl ⟨by rfl, ?_⟩) ?_ ?_
                                rotate_left
                                · intro w'
                                  go_simp
                                  with_reducible rfl
                                rotate_left
                                · simp only [Act.put, List.setIfInBounds_toArray, List.set_cons_zero, List.set_cons_succ, i64_w, i32_w]
                                  rfl
                                refine take_ (i := 13) (N := some 59) (v := ?_) (a' := ?_) #[true, true, true, true, true, true, true, true, true, true, true, true, true, true, false, false, true, true, false, false, false, false, true, false] rfl rfl (take_ofW HT_.out HW_.out (by kernel_rfl)) (fun _ _ _ h => h) (Or.inl ⟨by rfl, ?_⟩) hHeld ?_ ?_
                                rotate_left
                                · rintro w' ⟨s0, s1, s2, s3, s4, s5⟩
                                  go_simp
                                  with_reducible rfl
                                rotate_left
                                · simp only [Act.put, List.setIfInBounds_toArray, List.set_cons_zero, List.set_cons_succ, i64_w, i32_w]
                                  rfl
                                refine pure_ (i := 14) (N := some 60) (v := ?_) (a' := ?_) #[true, true, true, true, true, true, true, true, true, true, true, true, true, true, true, false, true, true, false, false, false, false, true, false] rfl rfl (any_of HT_.out (by kernel_rfl)) (fun _ _ _ h => h) (Or.inl ⟨by rfl, ?_⟩) ?_ ?_
                                rotate_left
                                · intro w'
                                  go_simp
                                  with_reducible rfl
                                rotate_left
                                · simp only [Act.put, List.setIfInBounds_toArray, List.set_cons_zero, List.set_cons_succ, i64_w, i32_w]
                                  rfl
                                refine take_ (i := 15) (N := some 61) (v := ?_) (a' := ?_) #[true, true, true, true, true, true, true, true, true, true, true, true, true, true, true, true, true, true, false, false, false, false, true, false] rfl rfl (take_ofW HT_.out HW_.out (by kernel_rfl)) (fun _ _ _ h => h) (Or.inl ⟨by rfl, ?_⟩) hHeld ?_ ?_
                                rotate_left
                                · rintro w' ⟨s0, s1, s2, s3, s4, s5⟩
                                  go_simp
                                  with_reducible rfl
                                rotate_left
                                · simp only [Act.put, List.setIfInBounds_toArray, List.set_cons_zero, List.set_cons_succ, i64_w, i32_w]
                                  rfl
                                refine take_ (i := 18) (N := some 64) (v := ?_) (a' := ?_) #[true, true, true, true, true, true, true, true, true, true, true, true, true, true, true, true, true, true, true, false, false, false, true, false] rfl rfl (take_ofW HT_.out HW_.out (by kernel_rfl)) (fun _ _ _ h => h) (Or.inl ⟨by rfl, ?_⟩) hHeld ?_ ?_
                                rotate_left
                                · rintro w' ⟨s0, s1, s2, s3, s4, s5⟩
                                  go_simp
                                  with_reducible rfl
                                rotate_left
                                · simp only [Act.put, List.setIfInBounds_toArray, List.set_cons_zero, List.set_cons_succ, i64_w, i32_w]
                                  rfl
                                refine pure_ (i := 19) (N := some 65) (v := ?_) (a' := ?_) #[true, true, true, true, true, true, true, true, true, true, true, true, true, true, true, true, true, true, true, true, false, false, true, false] rfl rfl (any_of HT_.out (by kernel_rfl)) (fun _ _ _ h => h) (Or.inl ⟨by rfl, ?_⟩) ?_ ?_
                                rotate_left
                                · intro w'
                                  go_simp
                                  with_reducible rfl
                                rotate_left
                                · simp only [Act.put, List.setIfInBounds_toArray, List.set_cons_zero, List.set_cons_succ, i64_w, i32_w]
                                  rfl
                                refine take_ (i := 20) (N := some 66) (v := ?_) (a' := ?_) #[true, true, true, true, true, true, true, true, true, true, true, true, true, true, true, true, true, true, true, true, true, false, true, false] rfl rfl (take_ofW HT_.out HW_.out (by kernel_rfl)) (fun _ _ _ h => h) (Or.inl ⟨by rfl, ?_⟩) hHeld ?_ ?_
                                rotate_left
                                · rintro w' ⟨s0, s1, s2, s3, s4, s5⟩
                                  go_simp
                                  with_reducible rfl
                                rotate_left
                                · simp only [Act.put, List.setIfInBounds_toArray, List.set_cons_zero, List.set_cons_succ, i64_w, i32_w]
                                  rfl
                                refine pure_ (i := 21) (N := some 67) (v := ?_) (a' := ?_) #[true, true, true, true, true, true, true, true, true, true, true, true, true, true, true, true, true, true, true, true, true, true, true, false] rfl rfl (any_of HT_.out (by kernel_rfl)) (fun _ _ _ h => h) (Or.inl ⟨by rfl, ?_⟩) ?_ ?_
                                rotate_left
                                · intro w'
                                  go_simp
                                  with_reducible rfl
                                rotate_left
                                · simp only [Act.put, List.setIfInBounds_toArray, List.set_cons_zero, List.set_cons_succ, i64_w, i32_w]
                                  rfl
                                refine pure_ (i := 23) (N := some 11) (v := ?_) (a' := ?_) #[true, true, true, true, true, true, true, true, true, true, true, true, true, true, true, true, true, true, true, true, true, true, true, true] rfl rfl (any_of HT_.out (by kernel_rfl)) (fun _ _ _ h => h) (Or.inl ⟨by rfl, ?_⟩) ?_ ?_
                                rotate_left
                                · intro w'
                                  go_simp
                                  with_reducible rfl
                                rotate_left
                                · simp only [Act.put, List.setIfInBounds_toArray, List.set_cons_zero, List.set_cons_succ, i64_w, i32_w]
                                  rfl
                                refine done_ (done_of HT_.out (by kernel_rfl)) ?_
                                try go_wp2
                                go_loopg [70] k3 (fun kq v70 w' => ∃ (x6_4 : List Int) (x70_4 : Int), v70 = .int .i64 x70_4 ∧ Aside0 (impl_IslandsOf.l2 kq x6_4 ji27 ji28 l1 (l1.length : Int) x42_3 (x6_3.length : Int) x70_4 = some (r1, r2)) ∧ Aside0 (kq ≤ k3) ∧ Aside0 (Kd.R (Kd.int .i64) 3 w' w.heap.size (fun k_ => k_ ≠ gb134) (.slice (some ad145) x6_3.length co34) x6_4) ∧ Aside0 (w'.heap[gb134]? = some (.cells #[.int .i64 a0] 3 (0, 0))) ∧ Aside0 (w'.heap[gb144]? = some (.cells #[.int .i64 ((rd_T90 l1 x42_3).f0), .int .i64 ((rd_T90 l1 x42_3).f1)] 90 (0, 0))) ∧ Aside0 (Below w.heap.size w w'))
                                case atStart => exact ⟨(x6_3), (0), (by first | rfl | (simp; done) | (simp [*]; done)), H', ⟨Nat.le_refl _⟩, ⟨by (with_reducible repeat (first | apply Kd.R_alloc | apply Kd.R_drewN | apply Kd.R_drew)); exact HO_6.out⟩, ⟨by (with_reducible repeat (first | refine blk_drewN ?_ _ | refine blk_drew ?_ | refine blk_alloc ?_ _)); exact BK134.out⟩, ⟨by (with_reducible repeat (first | refine blk_drewN ?_ _ | refine blk_drew ?_ | refine blk_alloc ?_ _)); exact BK144.out⟩, ⟨by repeat (first | (with_reducible first | exact HB.out | apply below_alloc | apply pw_below_drewN | apply below_drew1 | refine below_set ?_ GE134.out | refine below_set ?_ GE144.out) | exact HB.out)⟩⟩
                                case round =>
                                  clear H'
                                  try clear c1
                                  try clear p1
                                  try clear q1
                                  try clear hx1
                                  try clear c2
                                  try clear p2
                                  try clear c3
                                  try clear c5
                                  try clear c6
                                  try clear p6
                                  try clear c7
                                  try clear c7b0
                                  try clear c7b1
                                  try clear c13
                                  try clear p14
                                  try clear q14
                                  try clear hx14
                                  try clear c17
                                  try clear c17b0
                                  try clear c18
                                  try clear c19
                                  try clear c20
                                  try clear c20b0
                                  try clear c21
                                  try clear c21b0
                                  try clear c22
                                  try clear c22b0
                                  try clear c23
                                  try clear c23b0
                                  try clear c24
                                  try clear c24b0
                                  try clear c25
                                  try clear c25b0
                                  try clear c26
                                  try clear c26b0
                                  try clear c30
                                  try clear hcz10_0
                                  try clear hcz12_0
                                  try clear hcz16_0
                                  try clear hcz31_0
                                  try clear hcz31_1
                                  try clear hcz8_0
                                  try clear hfz10_0
                                  try clear hfz12_0
                                  try clear hfz16_0
                                  try clear hfz31_0
                                  try clear hfz31_1
                                  try clear hfz8_0
                                  try clear hx143_0
                                  try clear hx143_1
                                  try clear hx145_0
                                  try clear hx146_0
                                  try clear hx147_0
                                  try clear hx148_0
                                  try clear p143
                                  try clear p145
                                  try clear p146
                                  try clear p147
                                  try clear p148
                                  try clear p2
                                  try clear p6
                                  try clear q143
                                  try clear q145
                                  try clear q146
                                  try clear q147
                                  try clear q148
                                  obtain ⟨x6_4, x70_4, rfl, HA, HK4, HO_6, BK134, BK144, HB⟩ := hrel
                                  have hl6_4 := (Kd.R_reads' HO_6.out).1
                                  rw [hl6_4] at HO_6
                                  (try simp only [hl6_4])
                                  (try simp only [hl6_4] at BK134)
                                  (try simp only [hl6_4] at BK144)
                                  cases gk with
                                  | zero => exact absurd HA.out (by simp [impl_IslandsOf.l2])
                                  | succ k4 =>
                                    have H := HA.out
                                    clear HA
                                    simp only [impl_IslandsOf.l2] at H
                                    by_cases c35 : x70_4 < (x6_3.length : Int)
                                    · rw [if_pos c35] at H
                                      have c35b0 : decide (x70_4 < (x6_3.length : Int)) = true := decide_eq_true c35
                                      clear c35
                                      by_cases c36 : 0 ≤ x70_4
                                      · rw [if_pos c36] at H
                                        have c36b0 : decide (0 ≤ x70_4) = true := decide_eq_true c36
                                        clear c36
                                        by_cases c37 : x70_4 < (x6_4.length : Int)
                                        · rw [if_pos c37] at H
                                          have c37b0 : decide (x70_4 < (x6_4.length : Int)) = true := decide_eq_true c37
                                          clear c37
                                          by_cases c38 : (rd x6_4 x70_4) = ji28
                                          · rw [if_pos c38] at H
                                            have c38b0 : ((rd x6_4 x70_4) == ji28) = true := beq_iff_eq.mpr c38
                                            have c38b1 : ((rd x6_4 x70_4) != ji28) = false := bne_eq_false_iff_eq.mpr c38
                                            clear c38
                                            obtain ⟨y150, hy150⟩ : ∃ y_ : List Int, y_ = (x6_4.set (x70_4 : Int).toNat ji27) := ⟨_, rfl⟩
                                            replace H : (impl_IslandsOf.l2 k4 y150 ji27 ji28 l1 (l1.length : Int) x42_3 (x6_3.length : Int) (wrap64 (x70_4 + 1))) = some (r1, r2) := by first | (rw [hy150]; with_reducible exact H) | (have H2_ := (Option.bind_some _ _).symm.trans H; rw [hy150]; with_reducible exact H2_) | (have H2_ := (Option.bind_some _ _).symm.trans H; with_reducible exact H2_) | with_reducible exact H | (rw [hy150]; exact H) | exact H
                                            have Ny150 := Aside0.mk hy150
                                            clear hy150
                                            have H' := Aside0.mk H
                                            clear H
                                            have p149 : 0 ≤ (x70_4 : Int) := of_decide_eq_true (by first | (with_reducible assumption) | assumption)
                                            have q149 : x70_4 < (x6_4.length : Int) := of_decide_eq_true (by first | (with_reducible assumption) | assumption)
                                            obtain ⟨ad149, e149, hx149_0⟩ := Kd.at_int (Kd.R_reads' HO_6.out).2.2 x70_4 p149 q149
                                            obtain rfl : ad145 = ad149 := (by injection e149)
                                            replace p149 := eq_true p149
                                            replace q149 := eq_true q149
                                            have p39 : 0 ≤ (x70_4 : Int) := of_decide_eq_true (by first | (with_reducible assumption) | assumption)
                                            have q39 : (x70_4 : Int) < ((x6_4.length : Int) : Int) := of_decide_eq_true (by first | (with_reducible assumption) | assumption)
                                            obtain ⟨go39, co39, eo39, gb39, gl39, cl39, HG39⟩ := Kd.R_form HO_6.out (by omega)
                                            (first | cases eo39 | (injection eo39 with ea_ en_ ec_; (first | subst ea_ | (injection ea_ with ea_; subst ea_)); subst ec_; clear en_))
                                            (try simp only [add_plain] at *)
                                            have GB39 := Aside0.mk gb39
                                            have GG39 := Aside0.mk HG39
                                            clear gb39 gl39 HG39
                                            (first | simp only [add_plain] at hx145_0 | skip)
                                            (first | simp only [add_plain] at hx146_0 | skip)
                                            (first | simp only [add_plain] at hx147_0 | skip)
                                            (first | simp only [add_plain] at hx148_0 | skip)
                                            (first | simp only [add_plain] at hx149_0 | skip)
                                            obtain ⟨hx39_0, hf39_0⟩ := Kd.R_celln 0 HO_6.out (x70_4 : Int) p39 q39
                                            replace p39 := eq_true p39
                                            replace q39 := eq_true q39
                                            have HP40 := Kd.R_putg HO_6.out (x70_4 : Int) ji27
                                            go_wp2_with (first | ((with_reducible refine gate_store (t := 3) (p := 82) rfl ?_); refine store_event (t := 3) (p := 82) (v := ?vo_w41) (w1 := (wr.setCell ⟨go39, (x70_4 : Int).toNat, none⟩ (.int .i64 ji27))) ?hg ?ho ?hn ?hr ?_; (case ho => rfl); (case hg => rfl); (case hn => rfl); (case hr => first | (go_simp; done) | (go_simp; rfl)); intro w41 hw; have hg : wr.grownBy w41 (some go39) := (by rw [hw]; exact HP40.2); have hp_ : Kd.R (Kd.int .i64) 3 w41 w.heap.size (fun k_ => k_ ≠ gb134) (.slice (some ⟨go39, 0, none⟩) x6_4.length co34) y150 := (by rw [hw, Ny150.out]; exact HP40.1); clear HP40; have n0_ := Aside0.mk (hp_); have n1_ := Aside0.mk (blk_grown (g := gb134) (o := .cells #[.int .i64 a0] 3 (0, 0)) (by (with_reducible repeat (first | refine blk_drewN ?_ _ | refine blk_drew ?_ | refine blk_alloc ?_ _)); exact BK134.out) hg (Kd.R_away HO_6.out (fun _ hk => hk))); have n2_ := Aside0.mk (blk_grown (g := gb144) (o := .cells #[.int .i64 ((rd_T90 l1 x42_3).f0), .int .i64 ((rd_T90 l1 x42_3).f1)] 90 (0, 0)) (by (with_reducible repeat (first | refine blk_drewN ?_ _ | refine blk_drew ?_ | refine blk_alloc ?_ _)); exact BK144.out) hg (Kd.R_ne HO_6.out BK144.out (by decide))); have n3_ := Aside0.mk ((by rw [hw]; exact below_set (HB.out) GB39.out : Below w.heap.size w w41)); clear HO_6; clear BK134; clear BK144; clear HB; have HO_6 := n0_; have BK134 := n1_; have BK144 := n2_; have HB := n3_; clear n0_ n1_ n2_ n3_; clear hg hw hp_))
                                            (try simp only [← hl6_4])
                                            go_roundg k4
                                            case measure => have := HJ2.out; have := HK2.out; have := HK3.out; have := HK4.out; omega
                                            case rel => exact ⟨(y150), (wrap64 (x70_4 + 1)), (by first | rfl | (simp; done) | (simp [*]; done)), H', ⟨by have := HJ2.out; have := HK2.out; have := HK3.out; have := HK4.out; omega⟩, ⟨by (try simp only [hl6_4]); (with_reducible repeat (first | apply Kd.R_alloc | apply Kd.R_drewN | apply Kd.R_drew)); exact HO_6.out⟩, ⟨by (try simp only [hl6_4]); (with_reducible repeat (first | refine blk_drewN ?_ _ | refine blk_drew ?_ | refine blk_alloc ?_ _)); exact BK134.out⟩, ⟨by (try simp only [hl6_4]); (with_reducible repeat (first | refine blk_drewN ?_ _ | refine blk_drew ?_ | refine blk_alloc ?_ _)); exact BK144.out⟩, ⟨by repeat (first | (with_reducible first | exact HB.out | apply below_alloc | apply pw_below_drewN | apply below_drew1 | refine below_set ?_ GE134.out | refine below_set ?_ GE144.out) | exact HB.out)⟩⟩
                                          · rw [if_neg c38] at H
                                            have c38b0 : ((rd x6_4 x70_4) == ji28) = false := beq_eq_false_iff_ne.mpr c38
                                            have c38b1 : ((rd x6_4 x70_4) != ji28) = true := bne_iff_ne.mpr c38
                                            have H' := Aside0.mk H
                                            clear H
                                            have p149 : 0 ≤ (x70_4 : Int) := of_decide_eq_true (by first | (with_reducible assumption) | assumption)
                                            have q149 : x70_4 < (x6_4.length : Int) := of_decide_eq_true (by first | (with_reducible assumption) | assumption)
                                            obtain ⟨ad149, e149, hx149_0⟩ := Kd.at_int (Kd.R_reads' HO_6.out).2.2 x70_4 p149 q149
                                            obtain rfl : ad145 = ad149 := (by injection e149)
                                            replace p149 := eq_true p149
                                            replace q149 := eq_true q149
                                            go_wp2
                                            (try simp only [← hl6_4])
                                            go_roundg k4
                                            case measure => have := HJ2.out; have := HK2.out; have := HK3.out; have := HK4.out; omega
                                            case rel => exact ⟨(x6_4), (wrap64 (x70_4 + 1)), (by first | rfl | (simp; done) | (simp [*]; done)), H', ⟨by have := HJ2.out; have := HK2.out; have := HK3.out; have := HK4.out; omega⟩, ⟨by (try simp only [hl6_4]); (with_reducible repeat (first | apply Kd.R_alloc | apply Kd.R_drewN | apply Kd.R_drew)); exact HO_6.out⟩, ⟨by (try simp only [hl6_4]); (with_reducible repeat (first | refine blk_drewN ?_ _ | refine blk_drew ?_ | refine blk_alloc ?_ _)); exact BK134.out⟩, ⟨by (try simp only [hl6_4]); (with_reducible repeat (first | refine blk_drewN ?_ _ | refine blk_drew ?_ | refine blk_alloc ?_ _)); exact BK144.out⟩, ⟨by repeat (first | (with_reducible first | exact HB.out | apply below_alloc | apply pw_below_drewN | apply below_drew1 | refine below_set ?_ GE134.out | refine below_set ?_ GE144.out) | exact HB.out)⟩⟩
                                        · rw [if_neg c37] at H
                                          exact absurd H (by simp)
                                      · rw [if_neg c36] at H
                                        exact absurd H (by simp)
                                    · rw [if_neg c35] at H
                                      have c35b0 : decide (x70_4 < (x6_3.length : Int)) = false := decide_eq_false c35; (try (have c35bx := c35b0; rw [hl6_4] at c35bx)); (try (have c35by := c35b0; rw [hl87_4] at c35by))
                                      clear c35
                                      have H' := Aside0.mk H
                                      clear H
                                      go_wp2
                                      (try simp only [← hl6_4])
                                      go_roundg k4
                                      case measure => have := HJ2.out; have := HK2.out; have := HK3.out; have := HK4.out; omega
                                      case rel => exact ⟨(x6_4), (wrap64 (x42_3 + 1)), (by first | rfl | (simp; done) | (simp [*]; done)), H', ⟨by have := HJ2.out; have := HK2.out; have := HK3.out; have := HK4.out; omega⟩, ⟨by (try simp only [hl6_4]); (with_reducible repeat (first | apply Kd.R_alloc | apply Kd.R_drewN | apply Kd.R_drew)); exact HO_6.out⟩, ⟨by (try simp only [hl6_4]); (with_reducible repeat (first | refine blk_drewN ?_ _ | refine blk_drew ?_ | refine blk_alloc ?_ _)); exact BK134.out⟩, ⟨by repeat (first | (with_reducible first | exact HB.out | apply below_alloc | apply pw_below_drewN | apply below_drew1 | refine below_set ?_ GE134.out | refine below_set ?_ GE144.out) | exact HB.out)⟩⟩
                              · rw [if_neg c26] at H
                                exact absurd H (by simp)
                            · rw [if_neg c25] at H
                              exact absurd H (by simp)
                          · rw [if_neg c24] at H
                            exact absurd H (by simp)
                        · rw [if_neg c23] at H
                          exact absurd H (by simp)
                      · rw [if_neg c22] at H
                        exact absurd H (by simp)
                    · rw [if_neg c21] at H
                      exact absurd H (by simp)
                  · rw [if_neg c20] at H
                    have c20b0 : decide (x42_3 < (l1.length : Int)) = false := decide_eq_false c20
                    clear c20
                    obtain ⟨y151, hy151⟩ : ∃ y_ : List (List Int), y_ = (([] : List (List Int))) := ⟨_, rfl⟩
                    replace H : (if 0 ≤ (x6_3.length : Int) then (if ((x6_3.length : Int) : Int).toNat ≤ 35184372088832 then (impl_IslandsOf.l3 k3 y151 (List.replicate ((x6_3.length : Int) : Int).toNat 0) x6_3 (x6_3.length : Int) 0) else (none)) else (none)) = some (r1, r2) := by first | (rw [hy151]; with_reducible exact H) | (have H2_ := (Option.bind_some _ _).symm.trans H; rw [hy151]; with_reducible exact H2_) | (have H2_ := (Option.bind_some _ _).symm.trans H; with_reducible exact H2_) | with_reducible exact H | (rw [hy151]; exact H) | exact H
                    have Ny151 := Aside0.mk hy151
                    clear hy151
                    by_cases c42 : 0 ≤ (x6_3.length : Int)
                    · rw [if_pos c42] at H
                      have c42b0 := eq_true c42
                      have c42b1 : decide (0 ≤ (x6_3.length : Int)) = true := decide_eq_true c42
                      clear c42
                      by_cases c43 : ((x6_3.length : Int) : Int).toNat ≤ 35184372088832
                      · rw [if_pos c43] at H
                        have c43b0 := eq_true c43
                        have c43b1 : decide (((x6_3.length : Int) : Int).toNat ≤ 35184372088832) = true := decide_eq_true c43
                        clear c43
                        obtain ⟨y154, hy154⟩ : ∃ y_ : List Int, y_ = (List.replicate ((x6_3.length : Int) : Int).toNat 0) := ⟨_, rfl⟩
                        replace H : (impl_IslandsOf.l3 k3 y151 y154 x6_3 (x6_3.length : Int) 0) = some (r1, r2) := by first | (rw [hy154]; with_reducible exact H) | (have H2_ := (Option.bind_some _ _).symm.trans H; rw [hy154]; with_reducible exact H2_) | (have H2_ := (Option.bind_some _ _).symm.trans H; with_reducible exact H2_) | with_reducible exact H | (rw [hy154]; exact H) | exact H
                        have Ny154 := Aside0.mk hy154
                        clear hy154
                        have H' := Aside0.mk H
                        clear H
                        obtain ⟨Ao44, co44, eo44⟩ := Kd.R_slice HO_6.out
                        subst eo44
                        have hmk_ := impl_IslandsOf.mkMap
                        go_wp2_with (first | ((with_reducible refine gate_dst (N := 85) rfl ?_); (try (refine gate_guard (by rfl) ?_; dsimp only)); refine Kd.S_lit (Kd.slice 3 (Kd.int .i64)) _ 74 ?hg (N := 85) ?hd (xs := ([] : List (List Int))) (inner := []) (ok := fun _ => True) (okp := fun _ => True) ?hr ?hp (fun _ hk => hk) trivial (Below.refl _ _) (Nat.le_refl _) (by simp) ?_; (case hd => rfl); (case hg => rfl); (case hr => first | (go_simp; done) | (go_simp; rfl)); (case hp => exact (Reps.none _ _)); intro v152 w45 ho46 hb hg_ hnew_; clear hg_ hnew_; (first | rw [← Ny151.out] at ho46 | (simp only [Int.reduceToNat] at ho46; rw [← Ny151.out] at ho46)); have n0_ := Aside0.mk (Kd.R_below (by (with_reducible repeat (first | apply Kd.R_alloc | apply Kd.R_drewN | apply Kd.R_drew)); exact HO_6.out) hb); have n1_ := Aside0.mk (Kd.S_lower (Kd.S_newB (Kd.S_new' ho46 (Kd.R_lt (by (with_reducible repeat (first | apply Kd.R_alloc | apply Kd.R_drewN | apply Kd.R_drew)); exact HO_6.out))) (g := gb134) (o := .cells #[.int .i64 a0] 3 (0, 0)) (by (with_reducible repeat (first | refine blk_drewN ?_ _ | refine blk_drew ?_ | refine blk_alloc ?_ _)); exact BK134.out)) (below_size (by repeat (first | (with_reducible first | exact HB.out | apply below_alloc | apply pw_below_drewN | apply below_drew1 | refine below_set ?_ GE134.out) | exact HB.out)))); have n2_ := Aside0.mk (blk_below (g := gb134) (o := .cells #[.int .i64 a0] 3 (0, 0)) (by (with_reducible repeat (first | refine blk_drewN ?_ _ | refine blk_drew ?_ | refine blk_alloc ?_ _)); exact BK134.out) hb); have n3_ := Aside0.mk (below_step (by repeat (first | (with_reducible first | exact HB.out | apply below_alloc | apply pw_below_drewN | apply below_drew1 | refine below_set ?_ GE134.out) | exact HB.out)) hb); clear HO_6; clear BK134; clear HB; have HO_6 := n0_; have HO153 := n1_; have BK134 := n2_; have HB := n3_; clear n0_ n1_ n2_ n3_; clear hb ho46))
                        obtain ⟨gm, hgm⟩ : ∃ g_, w45.heap.size = g_ := ⟨_, rfl⟩
                        have hb := below_alloc (Below.refl w45.heap.size w45) (.map #[] 0)
                        have hgb_ : ∀ k_, (.slice (some ⟨gm, 0, none⟩) 0 0 : Value).ownBlock = some k_ → w45.heap.size ≤ k_ := (by intro k_ e_; injection e_ with e_; have e2_ : gm = k_ := e_; omega)
                        have n0_ := Aside0.mk (Kd.R_elder' (v := (.slice (some ⟨gm, 0, none⟩) 0 0 : Value)) HO_6.out hgb_ hb)
                        have n1_ := Aside0.mk (Kd.S_elder' (v := (.slice (some ⟨gm, 0, none⟩) 0 0 : Value)) HO153.out hgb_ hb)
                        have n2_ := Aside0.mk (show impl_IslandsOf.MapR (w45.alloc (.map #[] 0)) w.heap.size gm y154 0 from by rw [Ny154.out]; exact impl_IslandsOf.MapR.new (by have h_ := below_size HB.out; omega) (by rw [← hgm]; show (w45.heap.push (.map #[] 0))[w45.heap.size]? = some (.map #[] 0); simp))
                        have n3_ := Aside0.mk (blk_below (g := gb134) (o := .cells #[.int .i64 a0] 3 (0, 0)) (by (with_reducible repeat (first | refine blk_drewN ?_ _ | refine blk_drew ?_ | refine blk_alloc ?_ _)); exact BK134.out) hb)
                        have n4_ := Aside0.mk (below_step (by repeat (first | (with_reducible first | exact HB.out | apply below_alloc | apply pw_below_drewN | apply below_drew1) | exact HB.out)) hb)
                        clear HO_6 HO153 BK134 HB
                        have HO_6 := n0_
                        have HO153 := n1_
                        have HO156 := n2_
                        have BK134 := n3_
                        have HB := n4_
                        clear n0_ n1_ n2_ n3_ n4_ hb hgb_
                        (try rw [hgm])
                        clear hgm
                        generalize w45.alloc (.map #[] 0) = w47 at HO_6 HO153 HO156 BK134 HB ⊢
                        go_loopg [13, 89] k3 (fun kq v13 v89 w' => ∃ (x13_4 : List (List Int)) (x14_4 : List Int) (x87_4 : List Int) (x89_4 : Int), v89 = .int .i64 x89_4 ∧ Aside0 (impl_IslandsOf.l3 kq x13_4 x14_4 x87_4 (x6_3.length : Int) x89_4 = some (r1, r2)) ∧ Aside0 (kq ≤ k3) ∧ Aside0 (Kd.S (Kd.slice 3 (Kd.int .i64)) 74 w' w.heap.size (fun k_ => some k_ ≠ (.slice (some ⟨gm, 0, none⟩) 0 0 : Value).ownBlock ∧ some k_ ≠ ((.slice Ao44 x6_3.length co44) : Value).ownBlock ∧ k_ ≠ gb134) v13 x13_4) ∧ Aside0 (impl_IslandsOf.MapR w' w.heap.size gm x14_4 x89_4) ∧ Aside0 (Kd.R (Kd.int .i64) 3 w' w.heap.size (fun k_ => some k_ ≠ (.slice (some ⟨gm, 0, none⟩) 0 0 : Value).ownBlock ∧ k_ ≠ gb134) (.slice Ao44 x6_3.length co44) x87_4) ∧ Aside0 (w'.heap[gb134]? = some (.cells #[.int .i64 a0] 3 (0, 0))) ∧ Aside0 (Below w.heap.size w w'))
                        case atStart => exact ⟨(y151), (y154), (x6_3), (0), (by first | rfl | (simp; done) | (simp [*]; done)), H', ⟨Nat.le_refl _⟩, ⟨by (with_reducible repeat (first | apply Kd.S_alloc | apply Kd.S_drewN | apply Kd.S_drew)); exact Kd.S_mono HO153.out (fun _ hk => ⟨hk.2, ⟨hk.1.1.2, hk.1.2⟩⟩)⟩, ⟨HO156.out⟩, ⟨by (with_reducible repeat (first | apply Kd.R_alloc | apply Kd.R_drewN | apply Kd.R_drew)); exact Kd.R_mono HO_6.out (fun _ hk => ⟨hk.2, hk.1⟩)⟩, ⟨by (with_reducible repeat (first | refine blk_drewN ?_ _ | refine blk_drew ?_ | refine blk_alloc ?_ _)); exact BK134.out⟩, ⟨by repeat (first | (with_reducible first | exact HB.out | apply below_alloc | apply pw_below_drewN | apply below_drew1 | refine below_set ?_ GE134.out) | exact HB.out)⟩⟩
                        case round =>
                          clear H'
                          try clear c1
                          try clear p1
                          try clear q1
                          try clear hx1
                          try clear c2
                          try clear p2
                          try clear c3
                          try clear p3
                          try clear q3
                          try clear hx3
                          try clear hf3
                          try clear c4
                          try clear c5
                          try clear c6
                          try clear p6
                          try clear c7
                          try clear c7b0
                          try clear c7b1
                          try clear c13
                          try clear p14
                          try clear q14
                          try clear hx14
                          try clear c17
                          try clear c17b0
                          try clear c18
                          try clear c19
                          try clear c20
                          try clear c20b0
                          try clear c21
                          try clear c21b0
                          try clear c22
                          try clear c22b0
                          try clear c23
                          try clear c23b0
                          try clear c24
                          try clear c24b0
                          try clear c25
                          try clear c25b0
                          try clear c26
                          try clear c26b0
                          try clear c30
                          try clear c35
                          try clear c35b0
                          try clear c36
                          try clear c36b0
                          try clear c37
                          try clear c37b0
                          try clear c38
                          try clear c38b0
                          try clear c38b1
                          try clear p39
                          try clear q39
                          try clear hx39
                          try clear hf39
                          try clear c42
                          try clear c42b0
                          try clear c42b1
                          try clear c43
                          try clear c43b0
                          try clear c43b1
                          try clear hcz10_0
                          try clear hcz12_0
                          try clear hcz16_0
                          try clear hcz31_0
                          try clear hcz31_1
                          try clear hcz8_0
                          try clear hfz10_0
                          try clear hfz12_0
                          try clear hfz16_0
                          try clear hfz31_0
                          try clear hfz31_1
                          try clear hfz8_0
                          try clear hx143_0
                          try clear hx143_1
                          try clear hx145_0
                          try clear hx146_0
                          try clear hx147_0
                          try clear hx148_0
                          try clear hx149_0
                          try clear hx39_0
                          try clear p1
                          try clear p14
                          try clear p143
                          try clear p145
                          try clear p146
                          try clear p147
                          try clear p148
                          try clear p149
                          try clear p2
                          try clear p39
                          try clear p6
                          try clear q1
                          try clear q14
                          try clear q143
                          try clear q145
                          try clear q146
                          try clear q147
                          try clear q148
                          try clear q149
                          try clear q39
                          obtain ⟨x13_4, x14_4, x87_4, x89_4, rfl, HA, HK4, HO_13, HO_14, HO_87, BK134, HB⟩ := hrel
                          have hl87_4 := (Kd.R_reads' HO_87.out).1
                          rw [hl87_4] at HO_87
                          (try simp only [hl87_4])
                          (try simp only [hl87_4] at BK134)
                          (try simp only [hl87_4] at HO_13)
                          (try simp only [hl87_4] at HO_14)
                          cases gk with
                          | zero => exact absurd HA.out (by simp [impl_IslandsOf.l3])
                          | succ k4 =>
                            have H := HA.out
                            clear HA
                            simp only [impl_IslandsOf.l3] at H
                            by_cases c49 : x89_4 < (x6_3.length : Int)
                            · rw [if_pos c49] at H
                              have c49b0 : decide (x89_4 < (x6_3.length : Int)) = true := decide_eq_true c49
                              clear c49
                              by_cases c50 : 0 ≤ x89_4
                              · rw [if_pos c50] at H
                                have c50b0 : decide (0 ≤ x89_4) = true := decide_eq_true c50
                                clear c50
                                by_cases c51 : x89_4 < (x87_4.length : Int)
                                · rw [if_pos c51] at H
                                  have c51b0 : decide (x89_4 < (x87_4.length : Int)) = true := decide_eq_true c51
                                  clear c51
                                  by_cases c52 : (rd x87_4 x89_4) = x89_4
                                  · rw [if_pos c52] at H
                                    have c52b0 : ((rd x87_4 x89_4) == x89_4) = true := beq_iff_eq.mpr c52
                                    have c52b1 : ((rd x87_4 x89_4) != x89_4) = false := bne_eq_false_iff_eq.mpr c52
                                    clear c52
                                    by_cases c53 : x89_4 < (x14_4.length : Int)
                                    · rw [if_pos c53] at H
                                      have c53b0 : decide (x89_4 < (x14_4.length : Int)) = true := decide_eq_true c53
                                      clear c53
                                      obtain ⟨y158, hy158⟩ : ∃ y_ : List Int, y_ = (x14_4.set (x89_4 : Int).toNat (x13_4.length : Int)) := ⟨_, rfl⟩
                                      replace H : (if x13_4.length < 5864062014805 then ((some (x13_4 ++ [[]] : List (List Int))).bind fun y159 => (if 0 ≤ (rd x87_4 x89_4) then (if (rd x87_4 x89_4) < (x14_4.length : Int) then (if 0 ≤ (rd y158 (rd x87_4 x89_4)) then (if (rd y158 (rd x87_4 x89_4)) < (y159.length : Int) then (if (rd_L3 y159 (rd y158 (rd x87_4 x89_4))).length < 17592186044416 then (impl_IslandsOf.l3 k4 (y159.set ((rd y158 (rd x87_4 x89_4)) : Int).toNat ((rd_L3 y159 (rd y158 (rd x87_4 x89_4))) ++ [x89_4])) y158 x87_4 (x6_3.length : Int) (wrap64 (x89_4 + 1))) else (none)) else (none)) else (none)) else (none)) else (none))) else (none)) = some (r1, r2) := by first | (rw [hy158]; with_reducible exact H) | (have H2_ := (Option.bind_some _ _).symm.trans H; rw [hy158]; with_reducible exact H2_) | (have H2_ := (Option.bind_some _ _).symm.trans H; with_reducible exact H2_) | with_reducible exact H | (rw [hy158]; exact H) | exact H
                                      have Ny158 := Aside0.mk hy158
                                      clear hy158
                                      by_cases c55 : x13_4.length < 5864062014805
                                      · rw [if_pos c55] at H
                                        have LMc55 := Aside0.mk c55
                                        clear c55
                                        obtain ⟨y159, hy159⟩ : ∃ y_ : List (List Int), y_ = (x13_4 ++ [[]]) := ⟨_, rfl⟩
                                        replace H : (if 0 ≤ (rd x87_4 x89_4) then (if (rd x87_4 x89_4) < (x14_4.length : Int) then (if 0 ≤ (rd y158 (rd x87_4 x89_4)) then (if (rd y158 (rd x87_4 x89_4)) < (y159.length : Int) then (if (rd_L3 y159 (rd y158 (rd x87_4 x89_4))).length < 17592186044416 then (impl_IslandsOf.l3 k4 (y159.set ((rd y158 (rd x87_4 x89_4)) : Int).toNat ((rd_L3 y159 (rd y158 (rd x87_4 x89_4))) ++ [x89_4])) y158 x87_4 (x6_3.length : Int) (wrap64 (x89_4 + 1))) else (none)) else (none)) else (none)) else (none)) else (none)) = some (r1, r2) := by first | (rw [hy159]; with_reducible exact H) | (have H2_ := (Option.bind_some _ _).symm.trans H; rw [hy159]; with_reducible exact H2_) | (have H2_ := (Option.bind_some _ _).symm.trans H; with_reducible exact H2_) | with_reducible exact H | (rw [hy159]; exact H) | exact H
                                        have Ny159 := Aside0.mk hy159
                                        clear hy159
                                        by_cases c56 : 0 ≤ (rd x87_4 x89_4)
                                        · rw [if_pos c56] at H
                                          have c56b0 : decide (0 ≤ (rd x87_4 x89_4)) = true := decide_eq_true c56
                                          clear c56
                                          by_cases c57 : (rd x87_4 x89_4) < (x14_4.length : Int)
                                          · rw [if_pos c57] at H
                                            have c57b0 : decide ((rd x87_4 x89_4) < (x14_4.length : Int)) = true := decide_eq_true c57
                                            clear c57
                                            by_cases c58 : 0 ≤ (rd y158 (rd x87_4 x89_4))
                                            · rw [if_pos c58] at H
                                              have c58b0 : decide (0 ≤ (rd y158 (rd x87_4 x89_4))) = true := decide_eq_true c58
                                              clear c58
                                              by_cases c59 : (rd y158 (rd x87_4 x89_4)) < (y159.length : Int)
                                              · rw [if_pos c59] at H
                                                have c59b0 : decide ((rd y158 (rd x87_4 x89_4)) < (y159.length : Int)) = true := decide_eq_true c59
                                                clear c59
                                                by_cases c60 : (rd_L3 y159 (rd y158 (rd x87_4 x89_4))).length < 17592186044416
                                                · rw [if_pos c60] at H
                                                  have LMc60 := Aside0.mk c60
                                                  clear c60
                                                  obtain ⟨y164, hy164⟩ : ∃ y_ : List Int, y_ = ((rd_L3 y159 (rd y158 (rd x87_4 x89_4))) ++ [x89_4]) := ⟨_, rfl⟩
                                                  replace H : (impl_IslandsOf.l3 k4 (y159.set ((rd y158 (rd x87_4 x89_4)) : Int).toNat y164) y158 x87_4 (x6_3.length : Int) (wrap64 (x89_4 + 1))) = some (r1, r2) := by first | (rw [hy164]; with_reducible exact H) | (have H2_ := (Option.bind_some _ _).symm.trans H; rw [hy164]; with_reducible exact H2_) | (have H2_ := (Option.bind_some _ _).symm.trans H; with_reducible exact H2_) | with_reducible exact H | (rw [hy164]; exact H) | exact H
                                                  have Ny164 := Aside0.mk hy164
                                                  clear hy164
                                                  obtain ⟨y167, hy167⟩ : ∃ y_ : List (List Int), y_ = (y159.set ((rd y158 (rd x87_4 x89_4)) : Int).toNat y164) := ⟨_, rfl⟩
                                                  replace H : (impl_IslandsOf.l3 k4 y167 y158 x87_4 (x6_3.length : Int) (wrap64 (x89_4 + 1))) = some (r1, r2) := by first | (rw [hy167]; with_reducible exact H) | (have H2_ := (Option.bind_some _ _).symm.trans H; rw [hy167]; with_reducible exact H2_) | (have H2_ := (Option.bind_some _ _).symm.trans H; with_reducible exact H2_) | with_reducible exact H | (rw [hy167]; exact H) | exact H
                                                  have Ny167 := Aside0.mk hy167
                                                  clear hy167
                                                  have H' := Aside0.mk H
                                                  clear H
                                                  have p157 : 0 ≤ (x89_4 : Int) := of_decide_eq_true (by first | (with_reducible assumption) | assumption)
                                                  have q157 : x89_4 < (x87_4.length : Int) := of_decide_eq_true (by first | (with_reducible assumption) | assumption)
                                                  obtain ⟨ad157, e157, hx157_0⟩ := Kd.at_int (Kd.R_reads' HO_87.out).2.2 x89_4 p157 q157
                                                  cases e157
                                                  replace p157 := eq_true p157
                                                  replace q157 := eq_true q157
                                                  have p54 : 0 ≤ (x89_4 : Int) := of_decide_eq_true (by first | (with_reducible assumption) | assumption)
                                                  have q54 : (x89_4 : Int) < ((x14_4.length : Int) : Int) := of_decide_eq_true (by first | (with_reducible assumption) | assumption)
                                                  replace p54 := eq_true p54
                                                  replace q54 := eq_true q54
                                                  obtain ⟨Ao62, co62, eo62⟩ := Kd.S_slice HO_13.out
                                                  subst eo62
                                                  obtain ⟨oN, hrunN, hmapN⟩ := HO_14.out.put (v := (x13_4.length : Int)) (of_decide_eq_true (by first | (with_reducible assumption) | assumption)) (of_decide_eq_true (by first | (with_reducible assumption) | assumption))
                                                  go_upto_region 26 with fail
                                                  have hg := impl_IslandsOf.putGrown wr gm oN
                                                  have n0_ := Aside0.mk (Kd.S_after (v := (.slice (some ⟨gm, 0, none⟩) 0 0 : Value)) (v1 := (.slice (some ⟨gm, 0, none⟩) 0 0 : Value)) (ok := (fun k_ => some k_ ≠ (.slice (some ad157) x87_4.length co44 : Value).ownBlock ∧ k_ ≠ gb134)) (by (with_reducible repeat (first | apply Kd.S_alloc | apply Kd.S_drewN | apply Kd.S_drew)); exact Kd.S_mono HO_13.out (fun _ hk => ⟨⟨hk.2.1, hk.2.2⟩, hk.1⟩)) hg (.inl rfl))
                                                  have n1_ := Aside0.mk (show impl_IslandsOf.MapR { wr with heap := wr.heap.setIfInBounds gm oN } w.heap.size gm y158 (x89_4 + 1) from by rw [Ny158.out]; exact hmapN)
                                                  have n2_ := Aside0.mk (Kd.R_after (v := (.slice (some ⟨gm, 0, none⟩) 0 0 : Value)) (v1 := (.slice (some ⟨gm, 0, none⟩) 0 0 : Value)) (ok := (fun k_ => k_ ≠ gb134)) (Kd.R_mono HO_87.out (fun _ hk => ⟨hk.2, hk.1⟩)) hg (.inl rfl))
                                                  have n3_ := Aside0.mk (blk_grown (g := gb134) (o := .cells #[.int .i64 a0] 3 (0, 0)) BK134.out hg (fun e_ => by injection e_ with e_; exact HO_14.out.ne BK134.out e_.symm))
                                                  have n4_ := Aside0.mk (HB.out.grown hg (below_size HB.out) (fun k_ hk => by injection hk with hk; subst hk; exact HO_14.out.far))
                                                  clear HO_13 HO_14 HO_87 BK134 HB hrunN hmapN hg
                                                  have HO_13 := n0_
                                                  have HO_14 := n1_
                                                  have HO_87 := n2_
                                                  have BK134 := n3_
                                                  have HB := n4_
                                                  clear n0_ n1_ n2_ n3_ n4_
                                                  generalize { wr with heap := wr.heap.setIfInBounds gm oN } = w64 at HO_13 HO_14 HO_87 BK134 HB ⊢
                                                  go_wp2_with (first | ((with_reducible refine gate_builtin (b := .append) (xs := #[.tmp 101, .tmp 102]) rfl ?_); (try (refine gate_guard (by rfl) ?_; dsimp only)); at_builtin; refine Kd.S_append (Kd.slice 3 (Kd.int .i64)) (w0 := w) w.heap.size rfl (.tmp 101) (.tmp 102) 40 74 (.slice none 0 0) 24 rfl Try.underlying40 info74 rfl (by decide) (by omega) (.slice Ao62 x13_4.length co62) x13_4 [] [.slice none 0 0] (fun k_ => some k_ ≠ (.slice (some ⟨gm, 0, none⟩) 0 0 : Value).ownBlock ∧ some k_ ≠ (.slice (some ad157) x87_4.length co44 : Value).ownBlock ∧ k_ ≠ gb134) (fun _ => False) rfl rfl ?aP (fun _ hk => hk.elim) ?aF ?aO ?aB ?aS ?aL ?_; (case aP => first | exact ⟨_, rfl, Kd.R_nil _ _ _ _ _⟩ | exact rfl); (case aB => exact (by repeat (first | (with_reducible first | exact HB.out | apply below_alloc | apply pw_below_drewN | apply below_drew1 | refine below_set ?_ GE134.out) | exact HB.out))); (case aF => exact (fun k_ hk => ⟨Kd.fresh' (impl_IslandsOf.MapR.rlt (by first | exact HO_14.out | exact HO_14.out.alloc _ | exact hHeld.2)) k_ hk, Kd.fresh' (Kd.R_lt (by (with_reducible repeat (first | apply Kd.R_alloc | apply Kd.R_drewN | apply Kd.R_drew)); exact HO_87.out)) k_ hk, Kd.freshB (g := gb134) (o := .cells #[.int .i64 a0] 3 (0, 0)) (by (with_reducible repeat (first | refine blk_drewN ?_ _ | refine blk_drew ?_ | refine blk_alloc ?_ _)); exact BK134.out) k_ hk⟩)); (case aO => exact (by (with_reducible repeat (first | apply Kd.S_alloc | apply Kd.S_drewN | apply Kd.S_drew)); exact Kd.S_mono HO_13.out (fun k_ hk => ⟨⟨hk.2, ⟨hk.1.1, hk.1.2⟩⟩, fun e_ => e_⟩))); (case aS => exact (below_size (by repeat (first | (with_reducible first | exact HB.out | apply below_alloc | apply pw_below_drewN | apply below_drew1 | refine below_set ?_ GE134.out) | exact HB.out)))); (case aL => have := LMc55.out; omega); intro v160 w65 ho hb hg hat; rw [← Ny159.out] at ho; have n0_ := Aside0.mk (impl_IslandsOf.MapR.grown (by with_reducible first | exact HO_14.out | exact HO_14.out.alloc _) hg (fun e_ => by obtain ⟨c_, h_⟩ := Kd.S_typed HO_13.out _ e_.symm; exact HO_14.out.ne h_ rfl)); have n1_ := Aside0.mk (Kd.R_over' (by (with_reducible repeat (first | apply Kd.R_alloc | apply Kd.R_drewN | apply Kd.R_drew)); exact HO_87.out) (Kd.S_typed (by (with_reducible repeat (first | apply Kd.S_alloc | apply Kd.S_drewN | apply Kd.S_drew)); exact HO_13.out)) (by decide) hg); have n2_ := Aside0.mk (blk_grown (g := gb134) (o := .cells #[.int .i64 a0] 3 (0, 0)) (by (with_reducible repeat (first | refine blk_drewN ?_ _ | refine blk_drew ?_ | refine blk_alloc ?_ _)); exact BK134.out) hg (Kd.S_ne HO_13.out BK134.out (by decide))); have n3_ := Aside0.mk (hb); have n4_ := Aside0.mk (ho); clear HO_14; clear HO_87; clear BK134; clear HB; clear HO_13; have HO_14 := n0_; have HO_87 := n1_; have BK134 := n2_; have HB := n3_; have HO161 := n4_; clear n0_ n1_ n2_ n3_ n4_; clear ho hb hg hat; have p162 : 0 ≤ ((rd x87_4 x89_4) : Int) := of_decide_eq_true (by first | (with_reducible assumption) | assumption); have q162 : (rd x87_4 x89_4) < (y158.length : Int) := (by have h_ : ((rd x87_4 x89_4) : Int) < ((x14_4.length : Int) : Int) := of_decide_eq_true (by first | (with_reducible assumption) | assumption); first | (have e_ := (Kd.R_reads' HO_14.out).1; omega) | simpa only [Ny158.out, List.length_set] using h_); have ql162 : (((rd x87_4 x89_4) : Int) < ((x14_4.length : Int) : Int)) = True := eq_true (of_decide_eq_true (by first | (with_reducible assumption) | assumption)); replace p162 := eq_true p162; replace q162 := eq_true q162))
                                                  have n0_ := Aside0.mk (HO_14.out.drew)
                                                  have n1_ := Aside0.mk (Kd.R_drew HO_87.out)
                                                  have n2_ := Aside0.mk (Kd.S_drew HO161.out)
                                                  have n3_ := Aside0.mk (blk_drew BK134.out)
                                                  have n4_ := Aside0.mk (below_drew1 HB.out)
                                                  clear HO_14
                                                  clear HO_87
                                                  clear HO161
                                                  clear BK134
                                                  clear HB
                                                  have HO_14 := n0_
                                                  have HO_87 := n1_
                                                  have HO161 := n2_
                                                  have BK134 := n3_
                                                  have HB := n4_
                                                  clear n0_ n1_ n2_ n3_ n4_
                                                  obtain ⟨Ao67, co67, eo67⟩ := Kd.S_slice HO161.out
                                                  (first | subst eo67 | (injection eo67 with f1_ f2_ f3_; have f4_ := f1_.symm; have f5_ := f3_.symm; clear f1_ f2_ f3_; subst f4_; subst f5_))
                                                  have p163 : 0 ≤ ((rd y158 (rd x87_4 x89_4)) : Int) := of_decide_eq_true (by first | (with_reducible assumption) | assumption)
                                                  have q163 : (rd y158 (rd x87_4 x89_4)) < (y159.length : Int) := of_decide_eq_true (by first | (with_reducible assumption) | assumption)
                                                  obtain ⟨ad163, A163_0, c163_0, e163, hx163_0, hl163_0, hi163_0⟩ := at_L3 (Kd.S_reads' HO161.out).2.2 (rd y158 (rd x87_4 x89_4)) p163 q163
                                                  cases e163
                                                  obtain ⟨ce163, hce163, hMe163, hcc163⟩ := Kd.S_get HO161.out [] (rd y158 (rd x87_4 x89_4)) p163 (by first | exact q163 | exact of_decide_eq_true (by first | (with_reducible assumption) | assumption) | (have e_ := (Kd.S_reads' HO161.out).1; omega))
                                                  obtain ⟨ve163_0, rfl, ge163_0⟩ := hMe163
                                                  have hv163_0 := hcc163 0 _ rfl
                                                  rw [Nat.add_zero, show ((Kd.slice 3 (Kd.int .i64))).sz = 1 from rfl, Nat.mul_one] at hv163_0
                                                  replace hv163_0 := Option.some.inj (hv163_0.symm.trans hx163_0)
                                                  rw [hv163_0] at ge163_0
                                                  have HL163_0 := Aside0.mk (show Kd.R (Kd.int .i64) 3 _ _ _ _ (rd_L3 y159 (rd y158 (rd x87_4 x89_4))) from ge163_0)
                                                  clear hv163_0 ge163_0
                                                  have HX163_0 := Aside0.mk hx163_0
                                                  clear hcc163 hce163
                                                  have HR163_0 := Aside0.mk hi163_0
                                                  have HC163_0 := Aside0.mk hl163_0
                                                  clear hi163_0 hl163_0
                                                  replace p163 := eq_true p163
                                                  replace q163 := eq_true q163
                                                  obtain ⟨go68, co68, eo68, gb68, gl68, cl68, HG68⟩ := Kd.S_form HO161.out (by have h_ : ((rd y158 (rd x87_4 x89_4)) : Int) < ((y159.length : Int) : Int) := of_decide_eq_true (by first | (with_reducible assumption) | assumption); have h2_ : 0 ≤ ((rd y158 (rd x87_4 x89_4)) : Int) := (of_decide_eq_true (by first | (with_reducible assumption) | assumption)); omega)
                                                  (first | cases eo68 | (injection eo68 with ea_ en_ ec_; (first | subst ea_ | (injection ea_ with ea_; subst ea_)); subst ec_; clear en_))
                                                  have GB68 := Aside0.mk gb68
                                                  have GG68 := Aside0.mk HG68
                                                  clear gb68 gl68 HG68
                                                  (first | simp only [add_plain] at hx163_0 | skip)
                                                  obtain ⟨oki68, ce68, hcl68, hM68, hcc68, _, _, hH68⟩ := Kd.S_elem HO161.out [] ((rd y158 (rd x87_4 x89_4)) : Int) (of_decide_eq_true (by first | (with_reducible assumption) | assumption)) (by have h_ : ((rd y158 (rd x87_4 x89_4)) : Int) < ((y159.length : Int) : Int) := of_decide_eq_true (by first | (with_reducible assumption) | assumption); first | exact h_ | (have e_ := (Kd.S_reads' HO161.out).1; omega) | simpa using h_)
                                                  obtain ⟨ve68_0, rfl, ge68_0⟩ := hM68
                                                  have hv68 := hcc68 0 _ rfl
                                                  have hX68 := HX163_0.out
                                                  (try simp only [add_plain] at hX68)
                                                  (try simp only [Nat.add_zero] at hv68)
                                                  (try rw [show ((Kd.slice 3 (Kd.int .i64))).sz = 1 from rfl, Nat.mul_one] at hv68)
                                                  replace hv68 := Option.some.inj (hv68.symm.trans hX68)
                                                  subst hv68
                                                  clear hX68 hcc68 hcl68
                                                  have UU68 := Aside0.mk (show Kd.R (Kd.int .i64) 3 _ w.heap.size oki68 (.slice A163_0 (rd_L3 y159 (rd y158 (rd x87_4 x89_4))).length c163_0) (rd_L3 y159 (rd y158 (rd x87_4 x89_4))) from ge68_0)
                                                  have HH68 := Aside0.mk hH68
                                                  have HN68 := Aside0.mk (Kd.S_reads' HO161.out).1
                                                  clear hH68 ge68_0
                                                  refine start_ (n := 15) (S := fun w' => w'.cell? ⟨go68, ((rd y158 (rd x87_4 x89_4))).toNat, none⟩ = some (.slice A163_0 (rd_L3 y159 (rd y158 (rd x87_4 x89_4))).length c163_0) ∧ impl_IslandsOf.MapR w' w.heap.size gm y158 (x89_4 + 1)) (ds := [14]) #[false, false, false, false, false, false, false, false, false, false, false, false, false, false, false] (by kernel_rfl) rfl rfl ⟨hx163_0, HO_14.out⟩ (fun hHeld => ?_); refine with_tabW impl_IslandsOf.tab27 impl_IslandsOf.bits27 (fun HT_ HW_ => ?_)
                                                  generalize w65.drew = w66 at HO_14 HO_87 HO161 BK134 HB GG68 HH68 HL163_0 HR163_0 HX163_0 UU68 hx163_0 hHeld ⊢
                                                  refine pure_ (i := 0) (N := some 104) (v := ?_) (a' := ?_) #[true, false, false, false, false, false, false, false, false, false, false, false, false, false, false] rfl rfl (any_of HT_.out (by kernel_rfl)) (fun _ _ _ h => h) (Or.inl ⟨by rfl, ?_⟩) ?_ ?_
                                                  rotate_left
                                                  · intro w'
                                                    go_simp
                                                    with_reducible rfl
                                                  rotate_left
                                                  · simp only [Act.put, List.setIfInBounds_toArray, List.set_cons_zero, List.set_cons_succ, i64_w, i32_w]
                                                    rfl
                                                  refine pure_ (i := 1) (N := some 105) (v := ?_) (a' := ?_) #[true, true, false, false, false, false, false, false, false, false, false, false, false, false, false] rfl rfl (any_of HT_.out (by kernel_rfl)) (fun _ _ _ h => h) (Or.inl ⟨by rfl, ?_⟩) ?_ ?_
                                                  rotate_left
                                                  · intro w'
                                                    go_simp
                                                    with_reducible rfl
                                                  rotate_left
                                                  · simp only [Act.put, List.setIfInBounds_toArray, List.set_cons_zero, List.set_cons_succ, i64_w, i32_w]
                                                    rfl
                                                  refine pure_ (i := 2) (N := some 106) (v := ?_) (a' := ?_) #[true, true, true, false, false, false, false, false, false, false, false, false, false, false, false] rfl rfl (any_of HT_.out (by kernel_rfl)) (fun _ _ _ h => h) (Or.inl ⟨by rfl, ?_⟩) ?_ ?_
                                                  rotate_left
                                                  · intro w'
                                                    go_simp
                                                    with_reducible rfl
                                                  rotate_left
                                                  · simp only [Act.put, List.setIfInBounds_toArray, List.set_cons_zero, List.set_cons_succ, i64_w, i32_w]
                                                    rfl
                                                  refine take_ (i := 3) (N := some 107) (v := ?_) (a' := ?_) #[true, true, true, true, false, false, false, false, false, false, false, false, false, false, false] rfl rfl (take_ofW HT_.out HW_.out (by kernel_rfl)) (fun _ _ _ h => h) (Or.inl ⟨by rfl, ?_⟩) hHeld ?_ ?_
                                                  rotate_left
                                                  · intro w' s0_
                                                    have hlk_ := s0_.2.look (f := rd x87_4 x89_4) (of_decide_eq_true (by first | (with_reducible assumption) | assumption)) (by first | exact of_decide_eq_true (by first | (with_reducible assumption) | assumption) | exact of_eq_true (by assumption))
                                                    clear s0_
                                                    go_simp
                                                    with_reducible rfl
                                                  rotate_left
                                                  · simp only [Act.put, List.setIfInBounds_toArray, List.set_cons_zero, List.set_cons_succ, i64_w, i32_w]
                                                    rfl
                                                  refine pure_ (i := 4) (N := some 108) (v := ?_) (a' := ?_) #[true, true, true, true, true, false, false, false, false, false, false, false, false, false, false] rfl rfl (any_of HT_.out (by kernel_rfl)) (fun _ _ _ h => h) (Or.inl ⟨by rfl, ?_⟩) ?_ ?_
                                                  rotate_left
                                                  · intro w'
                                                    go_simp
                                                    with_reducible rfl
                                                  rotate_left
                                                  · simp only [Act.put, List.setIfInBounds_toArray, List.set_cons_zero, List.set_cons_succ, i64_w, i32_w]
                                                    rfl
                                                  refine pure_ (i := 5) (N := some 109) (v := ?_) (a' := ?_) #[true, true, true, true, true, true, false, false, false, false, false, false, false, false, false] rfl rfl (any_of HT_.out (by kernel_rfl)) (fun _ _ _ h => h) (Or.inl ⟨by rfl, ?_⟩) ?_ ?_
                                                  rotate_left
                                                  · intro w'
                                                    go_simp
                                                    with_reducible rfl
                                                  rotate_left
                                                  · simp only [Act.put, List.setIfInBounds_toArray, List.set_cons_zero, List.set_cons_succ, i64_w, i32_w]
                                                    rfl
                                                  refine pure_ (i := 6) (N := some 110) (v := ?_) (a' := ?_) #[true, true, true, true, true, true, true, false, false, false, false, false, false, false, false] rfl rfl (any_of HT_.out (by kernel_rfl)) (fun _ _ _ h => h) (Or.inl ⟨by rfl, ?_⟩) ?_ ?_
                                                  rotate_left
                                                  · intro w'
                                                    go_simp
                                                    with_reducible rfl
                                                  rotate_left
                                                  · simp only [Act.put, List.setIfInBounds_toArray, List.set_cons_zero, List.set_cons_succ, i64_w, i32_w]
                                                    rfl
                                                  refine take_ (i := 7) (N := some 111) (v := ?_) (a' := ?_) #[true, true, true, true, true, true, true, true, false, false, false, false, false, false, false] rfl rfl (take_ofW HT_.out HW_.out (by kernel_rfl)) (fun _ _ _ h => h) (Or.inl ⟨by rfl, ?_⟩) hHeld ?_ ?_
                                                  rotate_left
                                                  · intro w' s0_
                                                    have hlk_ := s0_.2.look (f := rd x87_4 x89_4) (of_decide_eq_true (by first | (with_reducible assumption) | assumption)) (by first | exact of_decide_eq_true (by first | (with_reducible assumption) | assumption) | exact of_eq_true (by assumption))
                                                    clear s0_
                                                    go_simp
                                                    with_reducible rfl
                                                  rotate_left
                                                  · simp only [Act.put, List.setIfInBounds_toArray, List.set_cons_zero, List.set_cons_succ, i64_w, i32_w]
                                                    rfl
                                                  refine pure_ (i := 8) (N := some 112) (v := ?_) (a' := ?_) #[true, true, true, true, true, true, true, true, true, false, false, false, false, false, false] rfl rfl (any_of HT_.out (by kernel_rfl)) (fun _ _ _ h => h) (Or.inl ⟨by rfl, ?_⟩) ?_ ?_
                                                  rotate_left
                                                  · intro w'
                                                    go_simp
                                                    with_reducible rfl
                                                  rotate_left
                                                  · simp only [Act.put, List.setIfInBounds_toArray, List.set_cons_zero, List.set_cons_succ, i64_w, i32_w]
                                                    rfl
                                                  refine pure_ (i := 10) (N := some 114) (v := ?_) (a' := ?_) #[true, true, true, true, true, true, true, true, true, false, true, false, false, false, false] rfl rfl (any_of HT_.out (by kernel_rfl)) (fun _ _ _ h => h) (Or.inl ⟨by rfl, ?_⟩) ?_ ?_
                                                  rotate_left
                                                  · intro w'
                                                    go_simp
                                                    with_reducible rfl
                                                  rotate_left
                                                  · simp only [Act.put, List.setIfInBounds_toArray, List.set_cons_zero, List.set_cons_succ, i64_w, i32_w]
                                                    rfl
                                                  refine take_ (i := 9) (N := some 113) (v := ?_) (a' := ?_) #[true, true, true, true, true, true, true, true, true, true, true, false, false, false, false] rfl rfl (take_ofW HT_.out HW_.out (by kernel_rfl)) (fun _ _ _ h => h) (Or.inl ⟨by rfl, ?_⟩) hHeld ?_ ?_
                                                  rotate_left
                                                  · intro w' s0_
                                                    have s0 := s0_.1
                                                    go_simp
                                                    with_reducible rfl
                                                  rotate_left
                                                  · simp only [Act.put, List.setIfInBounds_toArray, List.set_cons_zero, List.set_cons_succ, i64_w, i32_w]
                                                    rfl
                                                  refine one_ (i := 11) (N := some 115) #[true, true, true, true, true, true, true, true, true, true, true, true, false, false, false] rfl rfl (one_of HT_.out (by kernel_rfl)) (by decide) (fun K hK => ?_)
                                                  refine value_ (w1 := ?_) (v := ?_) (by rfl) rfl ?_ ?_
                                                  rotate_left 2
                                                  · go_simp
                                                    constructor
                                                    · rfl
                                                    · rfl
                                                  refine hK.out _ _ ⟨(World.cell?_alloc_lt _ _ _ (World.block_lt_of_cell? _ _ (hHeld.1))).trans (hHeld.1), hHeld.2.alloc _⟩ (fun hHeld => ?_)
                                                  clear hK K
                                                  refine norm_ (a' := ?_) ?_ ?_
                                                  rotate_left
                                                  · show Act.put _ (some 115) _ = _
                                                    simp only [Act.put, List.setIfInBounds_toArray, List.set_cons_zero, List.set_cons_succ, i64_w, i32_w]
                                                    rfl
                                                  refine one_ (i := 12) (N := some 116) #[true, true, true, true, true, true, true, true, true, true, true, true, true, false, false] rfl rfl (one_of HT_.out (by kernel_rfl)) (by decide) (fun K hK => ?_)
                                                  refine Kd.R_append_step (Kd.int .i64) (w0 := w) w.heap.size (by rfl) (.tmp 113) (.tmp 115) 74 3 (.int .i64 0) 8 rfl Try.underlying74 info3 rfl (by decide) (by omega) (.slice A163_0 (rd_L3 y159 (rd y158 (rd x87_4 x89_4))).length c163_0) (rd_L3 y159 (rd y158 (rd x87_4 x89_4))) x89_4 [.int .i64 x89_4] (fun k_ => oki68 k_ ∨ ((fun k_ => some k_ ≠ (.slice (some ⟨gm, 0, none⟩) 0 0 : Value).ownBlock ∧ some k_ ≠ (.slice (some ad157) x87_4.length co44 : Value).ownBlock ∧ k_ ≠ gb134)) k_ ∧ w66.heap.size ≤ k_) (fun _ => False) rfl rfl ?aP (fun _ hk => hk.elim) ?aF ?aO ?aB ?aS ?aL ?_
                                                  (case aP => exact rfl)
                                                  (case aB => exact (by repeat (first | (with_reducible first | exact HB.out | apply below_alloc | apply pw_below_drewN | apply below_drew1 | refine below_set ?_ GE134.out) | exact HB.out)))
                                                  (case aF => exact (fun k_ hk => .inr ⟨⟨Kd.fresh' (impl_IslandsOf.MapR.rlt (by first | exact HO_14.out | exact HO_14.out.alloc _ | exact hHeld.2)) k_ hk, Kd.fresh' (Kd.R_lt (by (with_reducible repeat (first | apply Kd.R_alloc | apply Kd.R_drewN | apply Kd.R_drew)); exact HO_87.out)) k_ hk, Kd.freshB (g := gb134) (o := .cells #[.int .i64 a0] 3 (0, 0)) (by (with_reducible repeat (first | refine blk_drewN ?_ _ | refine blk_drew ?_ | refine blk_alloc ?_ _)); exact BK134.out) k_ hk⟩, hk⟩))
                                                  (case aO => exact (by (with_reducible repeat (first | apply Kd.R_alloc | apply Kd.R_drewN | apply Kd.R_drew)); exact Kd.R_mono UU68.out (fun _ hk => .inl hk)))
                                                  (case aS => exact (below_size (by repeat (first | (with_reducible first | exact HB.out | apply below_alloc | apply pw_below_drewN | apply below_drew1 | refine below_set ?_ GE134.out) | exact HB.out))))
                                                  (case aL => have := LMc60.out; omega)
                                                  intro v165 w69 ho hb hg hat
                                                  (first | have HS0_ := cell_grown hg (hHeld.1) (by first | (rw [add_block]; exact (fun e_ => ((HL163_0.out.1 _ e_.symm).2) rfl)) | (show some (Addr.add _ _).block ≠ _; rw [add_block]; exact (fun e_ => ((HL163_0.out.1 _ e_.symm).2) rfl)) | exact (fun e_ => ((HL163_0.out.1 _ e_.symm).2) rfl)) | have HS0_ := cell_grown hg (cell_unalloc (hHeld.1) (by first | (rw [add_block]; exact Kd.S_lt HO161.out _ rfl) | (show (Addr.add _ _).block < _; rw [add_block]; exact Kd.S_lt HO161.out _ rfl) | exact Kd.S_lt HO161.out _ rfl)) (by first | (rw [add_block]; exact (fun e_ => ((HL163_0.out.1 _ e_.symm).2) rfl)) | (show some (Addr.add _ _).block ≠ _; rw [add_block]; exact (fun e_ => ((HL163_0.out.1 _ e_.symm).2) rfl)) | exact (fun e_ => ((HL163_0.out.1 _ e_.symm).2) rfl)))
                                                  rw [← Ny164.out] at ho
                                                  have n0_ := Aside0.mk (impl_IslandsOf.MapR.grown (by first | exact HO_14.out | exact HO_14.out.alloc _ | exact hHeld.2) hg (fun e_ => (HL163_0.out.1 _ e_.symm).1.1 rfl))
                                                  have n1_ := Aside0.mk (Kd.R_grown2 (by (with_reducible repeat (first | apply Kd.R_alloc | apply Kd.R_drewN | apply Kd.R_drew)); exact HO_87.out) rfl hg (fun k_ e_ => (HL163_0.out.1 k_ e_).1.2.1))
                                                  have n2_ := Aside0.mk (blk_grown (g := gb134) (o := .cells #[.int .i64 a0] 3 (0, 0)) (by (with_reducible repeat (first | refine blk_drewN ?_ _ | refine blk_drew ?_ | refine blk_alloc ?_ _)); exact BK134.out) hg (Kd.R_away HL163_0.out (fun _ hk => hk.1.2.2)))
                                                  have n3_ := Aside0.mk (hb)
                                                  have n4_ := Aside0.mk (Kd.H_grown (Kd.H_widen (by repeat (first | exact HH68.out | refine Kd.H_alloc ?_ _ | refine Kd.H_drewN ?_ _ | refine Kd.H_drew ?_))) hg (fun k_ e_ => .inl (UU68.out.1 k_ e_)))
                                                  have n5_ := Aside0.mk (ho)
                                                  clear HO_14
                                                  clear HO_87
                                                  clear BK134
                                                  clear HB
                                                  clear HH68
                                                  clear HO161
                                                  clear UU68
                                                  clear HL163_0
                                                  have HO_14 := n0_
                                                  have HO_87 := n1_
                                                  have BK134 := n2_
                                                  have HB := n3_
                                                  have HH68 := n4_
                                                  have HO166 := n5_
                                                  clear n0_ n1_ n2_ n3_ n4_ n5_
                                                  clear ho hb hg hat
                                                  have p61 : 0 ≤ ((rd y158 (rd x87_4 x89_4)) : Int) := of_decide_eq_true (by first | (with_reducible assumption) | assumption)
                                                  have q61 : ((rd y158 (rd x87_4 x89_4)) : Int) < ((y159.length : Int) : Int) := of_decide_eq_true (by first | (with_reducible assumption) | assumption)
                                                  replace p61 := eq_true p61
                                                  replace q61 := eq_true q61
                                                  obtain ⟨Ao72, co72, eo72⟩ := Kd.R_slice HO166.out
                                                  (first | subst eo72 | (injection eo72 with f1_ f2_ f3_; have f4_ := f1_.symm; have f5_ := f3_.symm; clear f1_ f2_ f3_; subst f4_; subst f5_))
                                                  obtain ⟨_, _, hraw70, _, _, hcc70, _⟩ := Kd.H_raw HH68.out (of_decide_eq_true (by first | (with_reducible assumption) | assumption)) (by have h_ : ((rd y158 (rd x87_4 x89_4)) : Int) < ((y159.length : Int) : Int) := of_decide_eq_true (by first | (with_reducible assumption) | assumption); first | exact h_ | (have e_ := (HN68.out); omega) | simpa using h_)
                                                  obtain ⟨_, hfr70⟩ := Kd.H_at HH68.out (of_decide_eq_true (by first | (with_reducible assumption) | assumption)) (by have h_ : ((rd y158 (rd x87_4 x89_4)) : Int) < ((y159.length : Int) : Int) := of_decide_eq_true (by first | (with_reducible assumption) | assumption); first | exact h_ | (have e_ := (HN68.out); omega) | simpa using h_)
                                                  have hx70_0 := hcc70 0 _ rfl
                                                  have hf70_0 := hfr70 0
                                                  (try simp only [Nat.add_zero] at hx70_0 hf70_0)
                                                  (try rw [show ((Kd.slice 3 (Kd.int .i64))).sz = 1 from rfl, Nat.mul_one] at hx70_0)
                                                  (try rw [show ((Kd.slice 3 (Kd.int .i64))).sz = 1 from rfl, Nat.mul_one] at hf70_0)
                                                  have HP70 := Kd.S_seg0 HH68.out (of_decide_eq_true (by first | (with_reducible assumption) | assumption)) (by have h_ : ((rd y158 (rd x87_4 x89_4)) : Int) < ((y159.length : Int) : Int) := of_decide_eq_true (by first | (with_reducible assumption) | assumption); first | exact h_ | (have e_ := (HN68.out); omega) | simpa using h_) (seg := [.slice Ao72 y164.length co72]) (j := 0) (show 1 ≤ 1 from by decide) (x' := y164) (Kd.M_row HO166.out) (fun _ hk => hk)
                                                  (try simp only [show ((Kd.slice 3 (Kd.int .i64))).sz = 1 from rfl, Nat.mul_one, Nat.add_zero] at HP70)
                                                  clear hcc70 hfr70
                                                  have HNB134_go68 := Aside0.mk (show gb134 ≠ go68 from by have h_ := Kd.R_ne hraw70 BK134.out (by decide); intro e_; exact h_ (by rw [e_]; rfl))
                                                  have HS70 := HP70.1
                                                  rw [← Ny167.out] at HS70
                                                  have HQ70 := Aside0.mk HS70
                                                  obtain ⟨_, hgg70⟩ := Kd.R_typed hraw70 go68 rfl
                                                  have GG70_ := Aside0.mk hgg70
                                                  clear HP70 HS70 hgg70
                                                  refine hK.out _ _ ⟨HS0_, HO_14.out⟩ (fun hHeld => ?_)
                                                  clear hK K
                                                  refine norm_ (a' := ?_) ?_ ?_
                                                  rotate_left
                                                  · show Act.put _ (some 116) _ = _
                                                    simp only [Act.put, List.setIfInBounds_toArray, List.set_cons_zero, List.set_cons_succ, i64_w, i32_w]
                                                    rfl
                                                  refine pure_ (i := 13) (N := some 117) (v := ?_) (a' := ?_) #[true, true, true, true, true, true, true, true, true, true, true, true, true, true, false] rfl rfl (any_of HT_.out (by kernel_rfl)) (fun _ _ _ h => h) (Or.inl ⟨by rfl, ?_⟩) ?_ ?_
                                                  rotate_left
                                                  · intro w'
                                                    go_simp
                                                    with_reducible rfl
                                                  rotate_left
                                                  · simp only [Act.put, List.setIfInBounds_toArray, List.set_cons_zero, List.set_cons_succ, i64_w, i32_w]
                                                    rfl
                                                  refine last_ (i := 14) (N := none) #[true, true, true, true, true, true, true, true, true, true, true, true, true, true, true] rfl rfl (one_of HT_.out (by kernel_rfl)) (by decide) (fun K hK => ?_)
                                                  refine skip_ (w1 := ?_) (by rfl) rfl ?_ ?_
                                                  rotate_left
                                                  · go_simp
                                                    rfl
                                                  refine hK.out _ _ ?_
                                                  clear hK K
                                                  refine done_ (done_of HT_.out (by kernel_rfl)) ?_
                                                  try go_wp2
                                                  (try simp only [← hl87_4])
                                                  go_roundg k4
                                                  case measure => have := HJ2.out; have := HK2.out; have := HK3.out; have := HK4.out; omega
                                                  case rel => exact ⟨(y167), (y158), (x87_4), (wrap64 (x89_4 + 1)), (by first | rfl | (simp; done) | (simp [*]; done)), H', ⟨by have := HJ2.out; have := HK2.out; have := HK3.out; have := HK4.out; omega⟩, ⟨by (try simp only [hl87_4]); (with_reducible repeat (first | apply Kd.S_alloc | apply Kd.S_drewN | apply Kd.S_drew)); exact HQ70.out⟩, ⟨(impl_IslandsOf.MapR.setc (p := ⟨go68, ((rd y158 (rd x87_4 x89_4)) : Int).toNat, none⟩) HO_14.out GG70_.out (.slice Ao72 y164.length co72)).next (by omega) (of_decide_eq_true (by first | (with_reducible assumption) | assumption)) (by have a_ : x89_4 < (x87_4.length : Int) := of_decide_eq_true (by first | (with_reducible assumption) | assumption); have b_ := (Kd.R_reads' HO_87.out).2.2.2.1; omega)⟩, ⟨by (try simp only [hl87_4]); (with_reducible repeat (first | apply Kd.R_alloc | apply Kd.R_drewN | apply Kd.R_drew)); exact Kd.R_mono (Kd.R_far (p := ⟨go68, ((rd y158 (rd x87_4 x89_4)) : Int).toNat, none⟩) (Kd.R_types HO_87.out GG70_.out (by decide)) (fun _ hk => hk.2) (.slice Ao72 y164.length co72)) (fun _ hk => ⟨hk.1.2, hk.1.1⟩)⟩, ⟨by (try simp only [hl87_4]); (with_reducible repeat (first | refine blk_drewN ?_ _ | refine blk_drew ?_ | refine blk_alloc ?_ _)); refine blk_far ?_ HNB134_go68.out _; (with_reducible repeat (first | refine blk_drewN ?_ _ | refine blk_drew ?_ | refine blk_alloc ?_ _)); exact BK134.out⟩, ⟨by repeat (first | (with_reducible first | exact HB.out | apply below_alloc | apply pw_below_drewN | apply below_drew1 | refine below_set ?_ GB68.out | refine below_set ?_ GE134.out) | exact HB.out)⟩⟩
                                                · rw [if_neg c60] at H
                                                  exact absurd H (by simp)
                                              · rw [if_neg c59] at H
                                                exact absurd H (by simp)
                                            · rw [if_neg c58] at H
                                              exact absurd H (by simp)
                                          · rw [if_neg c57] at H
                                            exact absurd H (by simp)
                                        · rw [if_neg c56] at H
                                          exact absurd H (by simp)
                                      · rw [if_neg c55] at H
                                        exact absurd H (by simp)
                                    · rw [if_neg c53] at H
                                      exact absurd H (by simp)
                                  · rw [if_neg c52] at H
                                    have c52b0 : ((rd x87_4 x89_4) == x89_4) = false := beq_eq_false_iff_ne.mpr c52
                                    have c52b1 : ((rd x87_4 x89_4) != x89_4) = true := bne_iff_ne.mpr c52
                                    by_cases c73 : 0 ≤ (rd x87_4 x89_4)
                                    · rw [if_pos c73] at H
                                      have c73b0 : decide (0 ≤ (rd x87_4 x89_4)) = true := decide_eq_true c73
                                      clear c73
                                      by_cases c74 : (rd x87_4 x89_4) < (x14_4.length : Int)
                                      · rw [if_pos c74] at H
                                        have c74b0 : decide ((rd x87_4 x89_4) < (x14_4.length : Int)) = true := decide_eq_true c74
                                        clear c74
                                        by_cases c75 : 0 ≤ (rd x14_4 (rd x87_4 x89_4))
                                        · rw [if_pos c75] at H
                                          have c75b0 : decide (0 ≤ (rd x14_4 (rd x87_4 x89_4))) = true := decide_eq_true c75
                                          clear c75
                                          by_cases c76 : (rd x14_4 (rd x87_4 x89_4)) < (x13_4.length : Int)
                                          · rw [if_pos c76] at H
                                            have c76b0 : decide ((rd x14_4 (rd x87_4 x89_4)) < (x13_4.length : Int)) = true := decide_eq_true c76
                                            clear c76
                                            by_cases c77 : (rd_L3 x13_4 (rd x14_4 (rd x87_4 x89_4))).length < 17592186044416
                                            · rw [if_pos c77] at H
                                              have LMc77 := Aside0.mk c77
                                              clear c77
                                              obtain ⟨y170, hy170⟩ : ∃ y_ : List Int, y_ = ((rd_L3 x13_4 (rd x14_4 (rd x87_4 x89_4))) ++ [x89_4]) := ⟨_, rfl⟩
                                              replace H : (impl_IslandsOf.l3 k4 (x13_4.set ((rd x14_4 (rd x87_4 x89_4)) : Int).toNat y170) x14_4 x87_4 (x6_3.length : Int) (wrap64 (x89_4 + 1))) = some (r1, r2) := by first | (rw [hy170]; with_reducible exact H) | (have H2_ := (Option.bind_some _ _).symm.trans H; rw [hy170]; with_reducible exact H2_) | (have H2_ := (Option.bind_some _ _).symm.trans H; with_reducible exact H2_) | with_reducible exact H | (rw [hy170]; exact H) | exact H
                                              have Ny170 := Aside0.mk hy170
                                              clear hy170
                                              obtain ⟨y173, hy173⟩ : ∃ y_ : List (List Int), y_ = (x13_4.set ((rd x14_4 (rd x87_4 x89_4)) : Int).toNat y170) := ⟨_, rfl⟩
                                              replace H : (impl_IslandsOf.l3 k4 y173 x14_4 x87_4 (x6_3.length : Int) (wrap64 (x89_4 + 1))) = some (r1, r2) := by first | (rw [hy173]; with_reducible exact H) | (have H2_ := (Option.bind_some _ _).symm.trans H; rw [hy173]; with_reducible exact H2_) | (have H2_ := (Option.bind_some _ _).symm.trans H; with_reducible exact H2_) | with_reducible exact H | (rw [hy173]; exact H) | exact H
                                              have Ny173 := Aside0.mk hy173
                                              clear hy173
                                              have H' := Aside0.mk H
                                              clear H
                                              have p157 : 0 ≤ (x89_4 : Int) := of_decide_eq_true (by first | (with_reducible assumption) | assumption)
                                              have q157 : x89_4 < (x87_4.length : Int) := of_decide_eq_true (by first | (with_reducible assumption) | assumption)
                                              obtain ⟨ad157, e157, hx157_0⟩ := Kd.at_int (Kd.R_reads' HO_87.out).2.2 x89_4 p157 q157
                                              cases e157
                                              replace p157 := eq_true p157
                                              replace q157 := eq_true q157
                                              have p168 : 0 ≤ ((rd x87_4 x89_4) : Int) := of_decide_eq_true (by first | (with_reducible assumption) | assumption)
                                              have q168 : (rd x87_4 x89_4) < (x14_4.length : Int) := of_decide_eq_true (by first | (with_reducible assumption) | assumption)
                                              replace p168 := eq_true p168
                                              replace q168 := eq_true q168
                                              try go_wp2
                                              have n0_ := Aside0.mk (Kd.S_drew HO_13.out)
                                              have n1_ := Aside0.mk (HO_14.out.drew)
                                              have n2_ := Aside0.mk (Kd.R_drew HO_87.out)
                                              have n3_ := Aside0.mk (blk_drew BK134.out)
                                              have n4_ := Aside0.mk (below_drew1 HB.out)
                                              clear HO_13
                                              clear HO_14
                                              clear HO_87
                                              clear BK134
                                              clear HB
                                              have HO_13 := n0_
                                              have HO_14 := n1_
                                              have HO_87 := n2_
                                              have BK134 := n3_
                                              have HB := n4_
                                              clear n0_ n1_ n2_ n3_ n4_
                                              obtain ⟨Ao81, co81, eo81⟩ := Kd.S_slice HO_13.out
                                              (first | subst eo81 | (injection eo81 with f1_ f2_ f3_; have f4_ := f1_.symm; have f5_ := f3_.symm; clear f1_ f2_ f3_; subst f4_; subst f5_))
                                              have p169 : 0 ≤ ((rd x14_4 (rd x87_4 x89_4)) : Int) := of_decide_eq_true (by first | (with_reducible assumption) | assumption)
                                              have q169 : (rd x14_4 (rd x87_4 x89_4)) < (x13_4.length : Int) := of_decide_eq_true (by first | (with_reducible assumption) | assumption)
                                              obtain ⟨ad169, A169_0, c169_0, e169, hx169_0, hl169_0, hi169_0⟩ := at_L3 (Kd.S_reads' HO_13.out).2.2 (rd x14_4 (rd x87_4 x89_4)) p169 q169
                                              cases e169
                                              obtain ⟨ce169, hce169, hMe169, hcc169⟩ := Kd.S_get HO_13.out [] (rd x14_4 (rd x87_4 x89_4)) p169 (by first | exact q169 | exact of_decide_eq_true (by first | (with_reducible assumption) | assumption) | (have e_ := (Kd.S_reads' HO_13.out).1; omega))
                                              obtain ⟨ve169_0, rfl, ge169_0⟩ := hMe169
                                              have hv169_0 := hcc169 0 _ rfl
                                              rw [Nat.add_zero, show ((Kd.slice 3 (Kd.int .i64))).sz = 1 from rfl, Nat.mul_one] at hv169_0
                                              replace hv169_0 := Option.some.inj (hv169_0.symm.trans hx169_0)
                                              rw [hv169_0] at ge169_0
                                              have HL169_0 := Aside0.mk (show Kd.R (Kd.int .i64) 3 _ _ _ _ (rd_L3 x13_4 (rd x14_4 (rd x87_4 x89_4))) from ge169_0)
                                              clear hv169_0 ge169_0
                                              have HX169_0 := Aside0.mk hx169_0
                                              clear hcc169 hce169
                                              have HR169_0 := Aside0.mk hi169_0
                                              have HC169_0 := Aside0.mk hl169_0
                                              clear hi169_0 hl169_0
                                              replace p169 := eq_true p169
                                              replace q169 := eq_true q169
                                              obtain ⟨go82, co82, eo82, gb82, gl82, cl82, HG82⟩ := Kd.S_form HO_13.out (by have h_ : ((rd x14_4 (rd x87_4 x89_4)) : Int) < ((x13_4.length : Int) : Int) := of_decide_eq_true (by first | (with_reducible assumption) | assumption); have h2_ : 0 ≤ ((rd x14_4 (rd x87_4 x89_4)) : Int) := (of_decide_eq_true (by first | (with_reducible assumption) | assumption)); omega)
                                              (first | cases eo82 | (injection eo82 with ea_ en_ ec_; (first | subst ea_ | (injection ea_ with ea_; subst ea_)); subst ec_; clear en_))
                                              have GB82 := Aside0.mk gb82
                                              have GG82 := Aside0.mk HG82
                                              clear gb82 gl82 HG82
                                              (first | simp only [add_plain] at hx169_0 | skip)
                                              obtain ⟨oki82, ce82, hcl82, hM82, hcc82, _, _, hH82⟩ := Kd.S_elem HO_13.out [] ((rd x14_4 (rd x87_4 x89_4)) : Int) (of_decide_eq_true (by first | (with_reducible assumption) | assumption)) (by have h_ : ((rd x14_4 (rd x87_4 x89_4)) : Int) < ((x13_4.length : Int) : Int) := of_decide_eq_true (by first | (with_reducible assumption) | assumption); first | exact h_ | (have e_ := (Kd.S_reads' HO_13.out).1; omega) | simpa using h_)
                                              obtain ⟨ve82_0, rfl, ge82_0⟩ := hM82
                                              have hv82 := hcc82 0 _ rfl
                                              have hX82 := HX169_0.out
                                              (try simp only [add_plain] at hX82)
                                              (try simp only [Nat.add_zero] at hv82)
                                              (try rw [show ((Kd.slice 3 (Kd.int .i64))).sz = 1 from rfl, Nat.mul_one] at hv82)
                                              replace hv82 := Option.some.inj (hv82.symm.trans hX82)
                                              subst hv82
                                              clear hX82 hcc82 hcl82
                                              have UU82 := Aside0.mk (show Kd.R (Kd.int .i64) 3 _ w.heap.size oki82 (.slice A169_0 (rd_L3 x13_4 (rd x14_4 (rd x87_4 x89_4))).length c169_0) (rd_L3 x13_4 (rd x14_4 (rd x87_4 x89_4))) from ge82_0)
                                              have HH82 := Aside0.mk hH82
                                              have HN82 := Aside0.mk (Kd.S_reads' HO_13.out).1
                                              clear hH82 ge82_0
                                              refine start_ (n := 15) (S := fun w' => w'.cell? ⟨go82, ((rd x14_4 (rd x87_4 x89_4))).toNat, none⟩ = some (.slice A169_0 (rd_L3 x13_4 (rd x14_4 (rd x87_4 x89_4))).length c169_0) ∧ impl_IslandsOf.MapR w' w.heap.size gm x14_4 x89_4) (ds := [14]) #[false, false, false, false, false, false, false, false, false, false, false, false, false, false, false] (by kernel_rfl) rfl rfl ⟨hx169_0, HO_14.out⟩ (fun hHeld => ?_); refine with_tabW impl_IslandsOf.tab27 impl_IslandsOf.bits27 (fun HT_ HW_ => ?_)
                                              generalize wr.drew = w80 at HO_13 HO_14 HO_87 BK134 HB GG82 HH82 HL169_0 HR169_0 HX169_0 UU82 hx169_0 hHeld ⊢
                                              refine pure_ (i := 0) (N := some 104) (v := ?_) (a' := ?_) #[true, false, false, false, false, false, false, false, false, false, false, false, false, false, false] rfl rfl (any_of HT_.out (by kernel_rfl)) (fun _ _ _ h => h) (Or.inl ⟨by rfl, ?_⟩) ?_ ?_
                                              rotate_left
                                              · intro w'
                                                go_simp
                                                with_reducible rfl
                                              rotate_left
                                              · simp only [Act.put, List.setIfInBounds_toArray, List.set_cons_zero, List.set_cons_succ, i64_w, i32_w]
                                                rfl
                                              refine pure_ (i := 1) (N := some 105) (v := ?_) (a' := ?_) #[true, true, false, false, false, false, false, false, false, false, false, false, false, false, false] rfl rfl (any_of HT_.out (by kernel_rfl)) (fun _ _ _ h => h) (Or.inl ⟨by rfl, ?_⟩) ?_ ?_
                                              rotate_left
                                              · intro w'
                                                go_simp
                                                with_reducible rfl
                                              rotate_left
                                              · simp only [Act.put, List.setIfInBounds_toArray, List.set_cons_zero, List.set_cons_succ, i64_w, i32_w]
                                                rfl
                                              refine pure_ (i := 2) (N := some 106) (v := ?_) (a' := ?_) #[true, true, true, false, false, false, false, false, false, false, false, false, false, false, false] rfl rfl (any_of HT_.out (by kernel_rfl)) (fun _ _ _ h => h) (Or.inl ⟨by rfl, ?_⟩) ?_ ?_
                                              rotate_left
                                              · intro w'
                                                go_simp
                                                with_reducible rfl
                                              rotate_left
                                              · simp only [Act.put, List.setIfInBounds_toArray, List.set_cons_zero, List.set_cons_succ, i64_w, i32_w]
                                                rfl
                                              refine take_ (i := 3) (N := some 107) (v := ?_) (a' := ?_) #[true, true, true, true, false, false, false, false, false, false, false, false, false, false, false] rfl rfl (take_ofW HT_.out HW_.out (by kernel_rfl)) (fun _ _ _ h => h) (Or.inl ⟨by rfl, ?_⟩) hHeld ?_ ?_
                                              rotate_left
                                              · intro w' s0_
                                                have hlk_ := s0_.2.look (f := rd x87_4 x89_4) (of_decide_eq_true (by first | (with_reducible assumption) | assumption)) (by first | exact of_decide_eq_true (by first | (with_reducible assumption) | assumption) | exact of_eq_true (by assumption))
                                                clear s0_
                                                go_simp
                                                with_reducible rfl
                                              rotate_left
                                              · simp only [Act.put, List.setIfInBounds_toArray, List.set_cons_zero, List.set_cons_succ, i64_w, i32_w]
                                                rfl
                                              refine pure_ (i := 4) (N := some 108) (v := ?_) (a' := ?_) #[true, true, true, true, true, false, false, false, false, false, false, false, false, false, false] rfl rfl (any_of HT_.out (by kernel_rfl)) (fun _ _ _ h => h) (Or.inl ⟨by rfl, ?_⟩) ?_ ?_
                                              rotate_left
                                              · intro w'
                                                go_simp
                                                with_reducible rfl
                                              rotate_left
                                              · simp only [Act.put, List.setIfInBounds_toArray, List.set_cons_zero, List.set_cons_succ, i64_w, i32_w]
                                                rfl
                                              refine pure_ (i := 5) (N := some 109) (v := ?_) (a' := ?_) #[true, true, true, true, true, true, false, false, false, false, false, false, false, false, false] rfl rfl (any_of HT_.out (by kernel_rfl)) (fun _ _ _ h => h) (Or.inl ⟨by rfl, ?_⟩) ?_ ?_
                                              rotate_left
                                              · intro w'
                                                go_simp
                                                with_reducible rfl
                                              rotate_left
                                              · simp only [Act.put, List.setIfInBounds_toArray, List.set_cons_zero, List.set_cons_succ, i64_w, i32_w]
                                                rfl
                                              refine pure_ (i := 6) (N := some 110) (v := ?_) (a' := ?_) #[true, true, true, true, true, true, true, false, false, false, false, false, false, false, false] rfl rfl (any_of HT_.out (by kernel_rfl)) (fun _ _ _ h => h) (Or.inl ⟨by rfl, ?_⟩) ?_ ?_
                                              rotate_left
                                              · intro w'
                                                go_simp
                                                with_reducible rfl
                                              rotate_left
                                              · simp only [Act.put, List.setIfInBounds_toArray, List.set_cons_zero, List.set_cons_succ, i64_w, i32_w]
                                                rfl
                                              refine take_ (i := 7) (N := some 111) (v := ?_) (a' := ?_) #[true, true, true, true, true, true, true, true, false, false, false, false, false, false, false] rfl rfl (take_ofW HT_.out HW_.out (by kernel_rfl)) (fun _ _ _ h => h) (Or.inl ⟨by rfl, ?_⟩) hHeld ?_ ?_
                                              rotate_left
                                              · intro w' s0_
                                                have hlk_ := s0_.2.look (f := rd x87_4 x89_4) (of_decide_eq_true (by first | (with_reducible assumption) | assumption)) (by first | exact of_decide_eq_true (by first | (with_reducible assumption) | assumption) | exact of_eq_true (by assumption))
                                                clear s0_
                                                go_simp
                                                with_reducible rfl
                                              rotate_left
                                              · simp only [Act.put, List.setIfInBounds_toArray, List.set_cons_zero, List.set_cons_succ, i64_w, i32_w]
                                                rfl
                                              refine pure_ (i := 8) (N := some 112) (v := ?_) (a' := ?_) #[true, true, true, true, true, true, true, true, true, false, false, false, false, false, false] rfl rfl (any_of HT_.out (by kernel_rfl)) (fun _ _ _ h => h) (Or.inl ⟨by rfl, ?_⟩) ?_ ?_
                                              rotate_left
                                              · intro w'
                                                go_simp
                                                with_reducible rfl
                                              rotate_left
                                              · simp only [Act.put, List.setIfInBounds_toArray, List.set_cons_zero, List.set_cons_succ, i64_w, i32_w]
                                                rfl
                                              refine pure_ (i := 10) (N := some 114) (v := ?_) (a' := ?_) #[true, true, true, true, true, true, true, true, true, false, true, false, false, false, false] rfl rfl (any_of HT_.out (by kernel_rfl)) (fun _ _ _ h => h) (Or.inl ⟨by rfl, ?_⟩) ?_ ?_
                                              rotate_left
                                              · intro w'
                                                go_simp
                                                with_reducible rfl
                                              rotate_left
                                              · simp only [Act.put, List.setIfInBounds_toArray, List.set_cons_zero, List.set_cons_succ, i64_w, i32_w]
                                                rfl
                                              refine take_ (i := 9) (N := some 113) (v := ?_) (a' := ?_) #[true, true, true, true, true, true, true, true, true, true, true, false, false, false, false] rfl rfl (take_ofW HT_.out HW_.out (by kernel_rfl)) (fun _ _ _ h => h) (Or.inl ⟨by rfl, ?_⟩) hHeld ?_ ?_
                                              rotate_left
                                              · intro w' s0_
                                                have s0 := s0_.1
                                                go_simp
                                                with_reducible rfl
                                              rotate_left
                                              · simp only [Act.put, List.setIfInBounds_toArray, List.set_cons_zero, List.set_cons_succ, i64_w, i32_w]
                                                rfl
                                              refine one_ (i := 11) (N := some 115) #[true, true, true, true, true, true, true, true, true, true, true, true, false, false, false] rfl rfl (one_of HT_.out (by kernel_rfl)) (by decide) (fun K hK => ?_)
                                              refine value_ (w1 := ?_) (v := ?_) (by rfl) rfl ?_ ?_
                                              rotate_left 2
                                              · go_simp
                                                constructor
                                                · rfl
                                                · rfl
                                              refine hK.out _ _ ⟨(World.cell?_alloc_lt _ _ _ (World.block_lt_of_cell? _ _ (hHeld.1))).trans (hHeld.1), hHeld.2.alloc _⟩ (fun hHeld => ?_)
                                              clear hK K
                                              refine norm_ (a' := ?_) ?_ ?_
                                              rotate_left
                                              · show Act.put _ (some 115) _ = _
                                                simp only [Act.put, List.setIfInBounds_toArray, List.set_cons_zero, List.set_cons_succ, i64_w, i32_w]
                                                rfl
                                              refine one_ (i := 12) (N := some 116) #[true, true, true, true, true, true, true, true, true, true, true, true, true, false, false] rfl rfl (one_of HT_.out (by kernel_rfl)) (by decide) (fun K hK => ?_)
                                              refine Kd.R_append_step (Kd.int .i64) (w0 := w) w.heap.size (by rfl) (.tmp 113) (.tmp 115) 74 3 (.int .i64 0) 8 rfl Try.underlying74 info3 rfl (by decide) (by omega) (.slice A169_0 (rd_L3 x13_4 (rd x14_4 (rd x87_4 x89_4))).length c169_0) (rd_L3 x13_4 (rd x14_4 (rd x87_4 x89_4))) x89_4 [.int .i64 x89_4] (fun k_ => oki82 k_ ∨ ((fun k_ => some k_ ≠ (.slice (some ⟨gm, 0, none⟩) 0 0 : Value).ownBlock ∧ some k_ ≠ (.slice (some ad157) x87_4.length co44 : Value).ownBlock ∧ k_ ≠ gb134)) k_ ∧ w80.heap.size ≤ k_) (fun _ => False) rfl rfl ?aP (fun _ hk => hk.elim) ?aF ?aO ?aB ?aS ?aL ?_
                                              (case aP => exact rfl)
                                              (case aB => exact (by repeat (first | (with_reducible first | exact HB.out | apply below_alloc | apply pw_below_drewN | apply below_drew1 | refine below_set ?_ GE134.out) | exact HB.out)))
                                              (case aF => exact (fun k_ hk => .inr ⟨⟨Kd.fresh' (impl_IslandsOf.MapR.rlt (by first | exact HO_14.out | exact HO_14.out.alloc _ | exact hHeld.2)) k_ hk, Kd.fresh' (Kd.R_lt (by (with_reducible repeat (first | apply Kd.R_alloc | apply Kd.R_drewN | apply Kd.R_drew)); exact HO_87.out)) k_ hk, Kd.freshB (g := gb134) (o := .cells #[.int .i64 a0] 3 (0, 0)) (by (with_reducible repeat (first | refine blk_drewN ?_ _ | refine blk_drew ?_ | refine blk_alloc ?_ _)); exact BK134.out) k_ hk⟩, hk⟩))
                                              (case aO => exact (by (with_reducible repeat (first | apply Kd.R_alloc | apply Kd.R_drewN | apply Kd.R_drew)); exact Kd.R_mono UU82.out (fun _ hk => .inl hk)))
                                              (case aS => exact (below_size (by repeat (first | (with_reducible first | exact HB.out | apply below_alloc | apply pw_below_drewN | apply below_drew1 | refine below_set ?_ GE134.out) | exact HB.out))))
                                              (case aL => have := LMc77.out; omega)
                                              intro v171 w83 ho hb hg hat
                                              (first | have HS0_ := cell_grown hg (hHeld.1) (by first | (rw [add_block]; exact (fun e_ => ((HL169_0.out.1 _ e_.symm).2) rfl)) | (show some (Addr.add _ _).block ≠ _; rw [add_block]; exact (fun e_ => ((HL169_0.out.1 _ e_.symm).2) rfl)) | exact (fun e_ => ((HL169_0.out.1 _ e_.symm).2) rfl)) | have HS0_ := cell_grown hg (cell_unalloc (hHeld.1) (by first | (rw [add_block]; exact Kd.S_lt HO_13.out _ rfl) | (show (Addr.add _ _).block < _; rw [add_block]; exact Kd.S_lt HO_13.out _ rfl) | exact Kd.S_lt HO_13.out _ rfl)) (by first | (rw [add_block]; exact (fun e_ => ((HL169_0.out.1 _ e_.symm).2) rfl)) | (show some (Addr.add _ _).block ≠ _; rw [add_block]; exact (fun e_ => ((HL169_0.out.1 _ e_.symm).2) rfl)) | exact (fun e_ => ((HL169_0.out.1 _ e_.symm).2) rfl)))
                                              rw [← Ny170.out] at ho
                                              have n0_ := Aside0.mk (impl_IslandsOf.MapR.grown (by first | exact HO_14.out | exact HO_14.out.alloc _ | exact hHeld.2) hg (fun e_ => (HL169_0.out.1 _ e_.symm).1.1 rfl))
                                              have n1_ := Aside0.mk (Kd.R_grown2 (by (with_reducible repeat (first | apply Kd.R_alloc | apply Kd.R_drewN | apply Kd.R_drew)); exact HO_87.out) rfl hg (fun k_ e_ => (HL169_0.out.1 k_ e_).1.2.1))
                                              have n2_ := Aside0.mk (blk_grown (g := gb134) (o := .cells #[.int .i64 a0] 3 (0, 0)) (by (with_reducible repeat (first | refine blk_drewN ?_ _ | refine blk_drew ?_ | refine blk_alloc ?_ _)); exact BK134.out) hg (Kd.R_away HL169_0.out (fun _ hk => hk.1.2.2)))
                                              have n3_ := Aside0.mk (hb)
                                              have n4_ := Aside0.mk (Kd.H_grown (Kd.H_widen (by repeat (first | exact HH82.out | refine Kd.H_alloc ?_ _ | refine Kd.H_drewN ?_ _ | refine Kd.H_drew ?_))) hg (fun k_ e_ => .inl (UU82.out.1 k_ e_)))
                                              have n5_ := Aside0.mk (ho)
                                              clear HO_14
                                              clear HO_87
                                              clear BK134
                                              clear HB
                                              clear HH82
                                              clear HO_13
                                              clear UU82
                                              clear HL169_0
                                              have HO_14 := n0_
                                              have HO_87 := n1_
                                              have BK134 := n2_
                                              have HB := n3_
                                              have HH82 := n4_
                                              have HO172 := n5_
                                              clear n0_ n1_ n2_ n3_ n4_ n5_
                                              clear ho hb hg hat
                                              have p78 : 0 ≤ ((rd x14_4 (rd x87_4 x89_4)) : Int) := of_decide_eq_true (by first | (with_reducible assumption) | assumption)
                                              have q78 : ((rd x14_4 (rd x87_4 x89_4)) : Int) < ((x13_4.length : Int) : Int) := of_decide_eq_true (by first | (with_reducible assumption) | assumption)
                                              replace p78 := eq_true p78
                                              replace q78 := eq_true q78
                                              obtain ⟨Ao86, co86, eo86⟩ := Kd.R_slice HO172.out
                                              (first | subst eo86 | (injection eo86 with f1_ f2_ f3_; have f4_ := f1_.symm; have f5_ := f3_.symm; clear f1_ f2_ f3_; subst f4_; subst f5_))
                                              obtain ⟨_, _, hraw84, _, _, hcc84, _⟩ := Kd.H_raw HH82.out (of_decide_eq_true (by first | (with_reducible assumption) | assumption)) (by have h_ : ((rd x14_4 (rd x87_4 x89_4)) : Int) < ((x13_4.length : Int) : Int) := of_decide_eq_true (by first | (with_reducible assumption) | assumption); first | exact h_ | (have e_ := (HN82.out); omega) | simpa using h_)
                                              obtain ⟨_, hfr84⟩ := Kd.H_at HH82.out (of_decide_eq_true (by first | (with_reducible assumption) | assumption)) (by have h_ : ((rd x14_4 (rd x87_4 x89_4)) : Int) < ((x13_4.length : Int) : Int) := of_decide_eq_true (by first | (with_reducible assumption) | assumption); first | exact h_ | (have e_ := (HN82.out); omega) | simpa using h_)
                                              have hx84_0 := hcc84 0 _ rfl
                                              have hf84_0 := hfr84 0
                                              (try simp only [Nat.add_zero] at hx84_0 hf84_0)
                                              (try rw [show ((Kd.slice 3 (Kd.int .i64))).sz = 1 from rfl, Nat.mul_one] at hx84_0)
                                              (try rw [show ((Kd.slice 3 (Kd.int .i64))).sz = 1 from rfl, Nat.mul_one] at hf84_0)
                                              have HP84 := Kd.S_seg0 HH82.out (of_decide_eq_true (by first | (with_reducible assumption) | assumption)) (by have h_ : ((rd x14_4 (rd x87_4 x89_4)) : Int) < ((x13_4.length : Int) : Int) := of_decide_eq_true (by first | (with_reducible assumption) | assumption); first | exact h_ | (have e_ := (HN82.out); omega) | simpa using h_) (seg := [.slice Ao86 y170.length co86]) (j := 0) (show 1 ≤ 1 from by decide) (x' := y170) (Kd.M_row HO172.out) (fun _ hk => hk)
                                              (try simp only [show ((Kd.slice 3 (Kd.int .i64))).sz = 1 from rfl, Nat.mul_one, Nat.add_zero] at HP84)
                                              clear hcc84 hfr84
                                              have HNB134_go82 := Aside0.mk (show gb134 ≠ go82 from by have h_ := Kd.R_ne hraw84 BK134.out (by decide); intro e_; exact h_ (by rw [e_]; rfl))
                                              have HS84 := HP84.1
                                              rw [← Ny173.out] at HS84
                                              have HQ84 := Aside0.mk HS84
                                              obtain ⟨_, hgg84⟩ := Kd.R_typed hraw84 go82 rfl
                                              have GG84_ := Aside0.mk hgg84
                                              clear HP84 HS84 hgg84
                                              refine hK.out _ _ ⟨HS0_, HO_14.out⟩ (fun hHeld => ?_)
                                              clear hK K
                                              refine norm_ (a' := ?_) ?_ ?_
                                              rotate_left
                                              · show Act.put _ (some 116) _ = _
                                                simp only [Act.put, List.setIfInBounds_toArray, List.set_cons_zero, List.set_cons_succ, i64_w, i32_w]
                                                rfl
                                              refine pure_ (i := 13) (N := some 117) (v := ?_) (a' := ?_) #[true, true, true, true, true, true, true, true, true, true, true, true, true, true, false] rfl rfl (any_of HT_.out (by kernel_rfl)) (fun _ _ _ h => h) (Or.inl ⟨by rfl, ?_⟩) ?_ ?_
                                              rotate_left
                                              · intro w'
                                                go_simp
                                                with_reducible rfl
                                              rotate_left
                                              · simp only [Act.put, List.setIfInBounds_toArray, List.set_cons_zero, List.set_cons_succ, i64_w, i32_w]
                                                rfl
                                              refine last_ (i := 14) (N := none) #[true, true, true, true, true, true, true, true, true, true, true, true, true, true, true] rfl rfl (one_of HT_.out (by kernel_rfl)) (by decide) (fun K hK => ?_)
                                              refine skip_ (w1 := ?_) (by rfl) rfl ?_ ?_
                                              rotate_left
                                              · go_simp
                                                rfl
                                              refine hK.out _ _ ?_
                                              clear hK K
                                              refine done_ (done_of HT_.out (by kernel_rfl)) ?_
                                              try go_wp2
                                              (try simp only [← hl87_4])
                                              go_roundg k4
                                              case measure => have := HJ2.out; have := HK2.out; have := HK3.out; have := HK4.out; omega
                                              case rel => exact ⟨(y173), (x14_4), (x87_4), (wrap64 (x89_4 + 1)), (by first | rfl | (simp; done) | (simp [*]; done)), H', ⟨by have := HJ2.out; have := HK2.out; have := HK3.out; have := HK4.out; omega⟩, ⟨by (try simp only [hl87_4]); (with_reducible repeat (first | apply Kd.S_alloc | apply Kd.S_drewN | apply Kd.S_drew)); exact HQ84.out⟩, ⟨(impl_IslandsOf.MapR.setc (p := ⟨go82, ((rd x14_4 (rd x87_4 x89_4)) : Int).toNat, none⟩) HO_14.out GG84_.out (.slice Ao86 y170.length co86)).next (by omega) (of_decide_eq_true (by first | (with_reducible assumption) | assumption)) (by have a_ : x89_4 < (x87_4.length : Int) := of_decide_eq_true (by first | (with_reducible assumption) | assumption); have b_ := (Kd.R_reads' HO_87.out).2.2.2.1; omega)⟩, ⟨by (try simp only [hl87_4]); (with_reducible repeat (first | apply Kd.R_alloc | apply Kd.R_drewN | apply Kd.R_drew)); exact Kd.R_mono (Kd.R_far (p := ⟨go82, ((rd x14_4 (rd x87_4 x89_4)) : Int).toNat, none⟩) (Kd.R_types HO_87.out GG84_.out (by decide)) (fun _ hk => hk.2) (.slice Ao86 y170.length co86)) (fun _ hk => ⟨hk.1.1, hk.1.2⟩)⟩, ⟨by (try simp only [hl87_4]); (with_reducible repeat (first | refine blk_drewN ?_ _ | refine blk_drew ?_ | refine blk_alloc ?_ _)); refine blk_far ?_ HNB134_go82.out _; (with_reducible repeat (first | refine blk_drewN ?_ _ | refine blk_drew ?_ | refine blk_alloc ?_ _)); exact BK134.out⟩, ⟨by repeat (first | (with_reducible first | exact HB.out | apply below_alloc | apply pw_below_drewN | apply below_drew1 | refine below_set ?_ GB82.out | refine below_set ?_ GE134.out) | exact HB.out)⟩⟩
                                            · rw [if_neg c77] at H
                                              exact absurd H (by simp)
                                          · rw [if_neg c76] at H
                                            exact absurd H (by simp)
                                        · rw [if_neg c75] at H
                                          exact absurd H (by simp)
                                      · rw [if_neg c74] at H
                                        exact absurd H (by simp)
                                    · rw [if_neg c73] at H
                                      exact absurd H (by simp)
                                · rw [if_neg c51] at H
                                  exact absurd H (by simp)
                              · rw [if_neg c50] at H
                                exact absurd H (by simp)
                            · rw [if_neg c49] at H
                              have c49b0 : decide (x89_4 < (x6_3.length : Int)) = false := decide_eq_false c49; (try (have c49bx := c49b0; rw [hl6_4] at c49bx)); (try (have c49by := c49b0; rw [hl87_4] at c49by))
                              clear c49
                              simp only [Option.some.injEq, Prod.mk.injEq] at H
                              obtain ⟨rfl, rfl⟩ := H
                              go_wp2
                              go_ret2
                              exact ⟨_, by first | rfl | (simp [errW_none, errW_some] <;> rfl) | (simp [*, errW_none, errW_some] <;> rfl), by (with_reducible repeat (first | apply Kd.S_alloc | apply Kd.S_drewN | apply Kd.S_drew)); exact Kd.S_mono HO_13.out (fun _ hk => trivial), by repeat (first | (with_reducible first | exact HB.out | apply below_alloc | apply pw_below_drewN | apply below_drew1 | refine below_set ?_ GE134.out) | exact HB.out)⟩
                      · rw [if_neg c43] at H
                        exact absurd H (by simp)
                    · rw [if_neg c42] at H
                      exact absurd H (by simp)

end Go.Proofs.Ytiaajmnmbjheoaa.PFnExactIslandsOf
